/- The equations of the code of some functions, written by the printer gen.py: each is checked by the kernel. -/
import Derived.Test.YtenokheiindfkabQ0
set_option linter.unusedVariables false
set_option linter.unusedSimpArgs false
set_option maxRecDepth 100000
namespace Go.Proofs.Ytenokheiindfkab
open Go.VW
noncomputable section
set_option linter.defProp false
variable {N : Sem Next → World → (Value → World → Prop) → Prop} {T : Sem Next → (Value → Prop) → Prop} {M : Value → (Value → Prop) → Prop} {G : Bool → ((Value → World → Prop) → Prop) → (Value → World → Prop) → World → Prop}
  {H : Bool → ((Value → Prop) → Prop) → (Value → Prop) → Prop} {S : World → Prop} {k : Env → World → Prop} {Q : Exit → Env → World → Prop} {e : Env} {w : World}
  {T2 : Nat → Sem Next → (Value → Prop) → Prop} {S2 : Nat → World → Prop}
/-! ### vouch/stream.New -/
def V9 : Nat → Bool := fun i => [0].elem i
noncomputable def c9 : Code := (Try.f9.body.getD .skip)
noncomputable def o9_0 : Array Oper := rO (cL c9)
noncomputable def c9_1 : Code := (cR c9)
noncomputable def o9_1 : Array Oper := rO (cL c9_1)
theorem o9_0_eq : opsW N M G 3 V9 o9_0 k o9_0.toList [] e e w =
    (M (Value.pointer none) fun t0 =>
    k (Env.p e 0 t0) w) := nr (by kernel_rfl)
theorem o9_1_eq : opsW N M G 3 V9 o9_1 k o9_1.toList [] e e w =
    (N (xv (Instr.build 56 ([]).toArray)) w fun t1 w =>
    N (xv (Instr.box 56 t1)) w fun t2 w =>
    M t2 fun t0 =>
    k (Env.p e 0 t0) w) := nr (by kernel_rfl)
theorem c9_1_s (hw : Cur w) : W Try.prog 3 V9 c9_1 Q e w = (opsW (nx Try.prog) mv gdP 3 V9 o9_1 (fun e w => Q .ret e w) o9_1.toList [] e e w) := by rw [(by kernel_rfl : c9_1 = .seq (.region 1 o9_1 false) Code.ret), W_seq_reg]; simp only [W_ret, W_skip, W_exit, W_label]
theorem c9_s (hw : Cur w) : W Try.prog 3 V9 c9 Q e w = (opsW (nx Try.prog) mv gdP 3 V9 o9_0 (fun e w => W Try.prog 3 V9 c9_1 Q e w) o9_0.toList [] e e w) := by rw [(by kernel_rfl : c9 = .seq (.region 0 o9_0 false) c9_1), W_seq_reg]
theorem call9 {w : World} {R : Value → World → Prop} (h : W Try.prog 3 V9 c9 (retQ Try.prog [.tmp 0] R) (argE []) w) : CallsN Try.prog 9 [] w R :=
  callsN_of_W (c := c9) (rs := [.tmp 0]) V9 Try.ntmps9 (by rw [Try.results9]) mixed Try.func9 (by kernel_rfl) (by kernel_rfl) (by kernel_rfl) (by kernel_rfl) (by simp) h
noncomputable def hk9 := And.intro (@o9_0_eq) <| And.intro (@o9_1_eq) <| And.intro (@c9_1_s) <| @c9_s
-- K9: ↓hk9
/-! ### (*vouch/stream.Log) . First -/
def V11 : Nat → Bool := fun i => [0, 1, 2, 4, 6, 7, 8, 9, 17, 29].elem i
noncomputable def c11 : Code := (Try.f11.body.getD .skip)
noncomputable def o11_0 : Array Oper := rO (cL c11)
noncomputable def c11_1 : Code := (cR c11)
noncomputable def c11_2 : Code := (cR c11_1)
noncomputable def o11_3 : Array Oper := rO (cL c11_2)
noncomputable def c11_3 : Code := (cR c11_2)
noncomputable def o11_4 : Array Oper := rO (cL c11_3)
noncomputable def c11_4 : Code := (cR c11_3)
noncomputable def c11_5 : Code := (cR c11_4)
noncomputable def o11_7 : Array Oper := rO (cL c11_5)
noncomputable def c11_6 : Code := (cL c11_4)
noncomputable def o11_5 : Array Oper := rO (cL c11_6)
noncomputable def c11_7 : Code := (cR c11_6)
noncomputable def c11_8 : Code := (cL c11_7)
noncomputable def o11_6 : Array Oper := rO (cL c11_8)
noncomputable def c11_9 : Code := (cL c11_1)
noncomputable def o11_1 : Array Oper := rO (cL c11_9)
noncomputable def c11_10 : Code := (cR c11_9)
noncomputable def c11_11 : Code := (cL c11_10)
noncomputable def o11_2 : Array Oper := rO (cL c11_11)
theorem o11_0_eq : opsW N M G 34 V11 o11_0 k o11_0.toList [] e e w =
    (N (xv (Instr.box 9 (e 1))) w fun t4 w =>
    M (Value.int IntKind.i64 0) fun t6 =>
    M (Value.bool false) fun t7 =>
    k (Env.p (Env.p (Env.p e 4 t4) 6 t6) 7 t7) w) := nr (by kernel_rfl)
theorem o11_3_eq : opsW N M G 34 V11 o11_3 k o11_3.toList [] e e w =
    (M (e 2) fun t18 =>
    N (builtin Builtin.max #[2, 2] 2 ([false, true]).toArray ([t18, (Value.int IntKind.i64 0)]).toArray) w fun t19 w =>
    M t19 fun t8 =>
    k (Env.p e 8 t8) w) := nr (by kernel_rfl)
theorem o11_4_eq : opsW N M G 34 V11 o11_4 k o11_4.toList [] e e w =
    (M (e 0) fun t20 =>
    N (xnil t20) w fun t21 w =>
    N (xv (Instr.fieldAt 56 t21 0)) w fun t22 w =>
    N (xv (Instr.loadAt 22 t22)) w fun t23 w =>
    M (e 8) fun t24 =>
    N (xv (Instr.sliceAt 22 t23 (some t24) none none)) w fun t25 w =>
    N (xv (Instr.makeFunc (Fn.func 22) ([]).toArray ([(e 4)]).toArray)) w fun t26 w =>
    N (xcall (Value.func (Fn.func 21) #[] #[]) [t25, t26]) w fun t27 w =>
    M t27 fun t9 =>
    k (Env.p e 9 t9) w) := nr (by kernel_rfl)
theorem o11_7_eq : opsW N M G 34 V11 o11_7 k o11_7.toList [] e e w =
    (M (e 8) fun t30 =>
    M (e 9) fun t31 =>
    N (xv (xbin BinOp.add 2 (Operand.tmp 30) (Operand.tmp 31) t30 t31)) w fun t32 w =>
    N (xv (xbin BinOp.add 2 (Operand.tmp 32) (Operand.const (Value.int IntKind.i64 1)) t32 (Value.int IntKind.i64 1))) w fun t33 w =>
    M t33 fun t6 =>
    M (Value.bool true) fun t7 =>
    k (Env.p (Env.p e 6 t6) 7 t7) w) := nr (by kernel_rfl)
theorem c11_5_s (hw : Cur w) : W Try.prog 34 V11 c11_5 Q e w = (opsW (nx Try.prog) mv gdP 34 V11 o11_7 (fun e w => Q .ret e w) o11_7.toList [] e e w) := by rw [(by kernel_rfl : c11_5 = .seq (.region 7 o11_7 false) Code.ret), W_seq_reg]; simp only [W_ret, W_skip, W_exit, W_label]
theorem o11_5_eq : opsW N M G 34 V11 o11_5 k o11_5.toList [] e e w =
    (M (e 9) fun t28 =>
    N (xv (xbin BinOp.lss 3 (Operand.tmp 28) (Operand.const (Value.int IntKind.i64 0)) t28 (Value.int IntKind.i64 0))) w fun t29 w =>
    k (Env.p e 29 t29) w) := nr (by kernel_rfl)
theorem o11_6_eq : opsW N M G 34 V11 o11_6 k o11_6.toList [] e e w =
    (M (Value.int IntKind.i64 0) fun t6 =>
    M (Value.bool false) fun t7 =>
    k (Env.p (Env.p e 6 t6) 7 t7) w) := nr (by kernel_rfl)
theorem c11_8_s (hw : Cur w) : W Try.prog 34 V11 c11_8 Q e w = (opsW (nx Try.prog) mv gdP 34 V11 o11_6 (fun e w => Q .ret e w) o11_6.toList [] e e w) := by rw [(by kernel_rfl : c11_8 = .seq (.region 6 o11_6 false) Code.ret), W_seq_reg]; simp only [W_ret, W_skip, W_exit, W_label]
theorem c11_7_v : opV V11 (.tmp 29) = true := by kernel_rfl
theorem c11_7_s (hw : Cur w) : W Try.prog 34 V11 c11_7 Q e w = (condP (ev e (.tmp 29)) (W Try.prog 34 V11 c11_8 Q e w) (Q .normal e w)) := by rw [(by kernel_rfl : c11_7 = .cond (.tmp 29) c11_8 Code.skip), W_cond, c11_7_v, cond_true]; simp only [W_ret, W_skip, W_exit, W_label]
theorem c11_6_s (hw : Cur w) : W Try.prog 34 V11 c11_6 Q e w = (opsW (nx Try.prog) mv gdP 34 V11 o11_5 (fun e w => W Try.prog 34 V11 c11_7 Q e w) o11_5.toList [] e e w) := by rw [(by kernel_rfl : c11_6 = .seq (.region 5 o11_5 false) c11_7), W_seq_reg]
theorem c11_4_s (hw : Cur w) : W Try.prog 34 V11 c11_4 Q e w = (W Try.prog 34 V11 c11_6 (seqQ (fun e w => W Try.prog 34 V11 c11_5 Q e w) Q) e w) := by rw [(by kernel_rfl : c11_4 = .seq c11_6 c11_5), W_seq]
theorem c11_3_s (hw : Cur w) : W Try.prog 34 V11 c11_3 Q e w = (opsW (nx Try.prog) mv gdP 34 V11 o11_4 (fun e w => W Try.prog 34 V11 c11_4 Q e w) o11_4.toList [] e e w) := by rw [(by kernel_rfl : c11_3 = .seq (.region 4 o11_4 false) c11_4), W_seq_reg]
theorem c11_2_s (hw : Cur w) : W Try.prog 34 V11 c11_2 Q e w = (opsW (nx Try.prog) mv gdP 34 V11 o11_3 (fun e w => W Try.prog 34 V11 c11_3 Q e w) o11_3.toList [] e e w) := by rw [(by kernel_rfl : c11_2 = .seq (.region 3 o11_3 false) c11_3), W_seq_reg]
theorem o11_1_eq : opsW N M G 34 V11 o11_1 k o11_1.toList [] e e w =
    (M (e 0) fun t10 =>
    N (xv (xbin BinOp.eql 24 (Operand.tmp 10) (Operand.const (Value.pointer none)) t10 (Value.pointer none))) w fun t11 w =>
    M t11 fun t12 =>
    G (isB t12 false) (fun K => M (e 2) fun v => K v w) (fun t13 w =>
    G (isB t12 false) (fun K => M (e 0) fun v => K v w) (fun t14 w =>
    G (isB t12 false) (fun K => N (xcall (Value.func (Fn.func 13) #[] #[]) [t14]) w K) (fun t15 w =>
    G (isB t12 false) (fun K => N (xv (xbin BinOp.geq 2 (Operand.tmp 13) (Operand.tmp 15) t13 t15)) w K) (fun t16 w =>
    N (xpick t12 (Value.bool true) t16) w fun t17 w =>
    k (Env.p e 17 t17) w) w) w) w) w) := nr (by kernel_rfl)
theorem o11_2_eq : opsW N M G 34 V11 o11_2 k o11_2.toList [] e e w =
    (M (Value.int IntKind.i64 0) fun t6 =>
    M (Value.bool false) fun t7 =>
    k (Env.p (Env.p e 6 t6) 7 t7) w) := nr (by kernel_rfl)
theorem c11_11_s (hw : Cur w) : W Try.prog 34 V11 c11_11 Q e w = (opsW (nx Try.prog) mv gdP 34 V11 o11_2 (fun e w => Q .ret e w) o11_2.toList [] e e w) := by rw [(by kernel_rfl : c11_11 = .seq (.region 2 o11_2 false) Code.ret), W_seq_reg]; simp only [W_ret, W_skip, W_exit, W_label]
theorem c11_10_v : opV V11 (.tmp 17) = true := by kernel_rfl
theorem c11_10_s (hw : Cur w) : W Try.prog 34 V11 c11_10 Q e w = (condP (ev e (.tmp 17)) (W Try.prog 34 V11 c11_11 Q e w) (Q .normal e w)) := by rw [(by kernel_rfl : c11_10 = .cond (.tmp 17) c11_11 Code.skip), W_cond, c11_10_v, cond_true]; simp only [W_ret, W_skip, W_exit, W_label]
theorem c11_9_s (hw : Cur w) : W Try.prog 34 V11 c11_9 Q e w = (opsW (nx Try.prog) mv gdP 34 V11 o11_1 (fun e w => W Try.prog 34 V11 c11_10 Q e w) o11_1.toList [] e e w) := by rw [(by kernel_rfl : c11_9 = .seq (.region 1 o11_1 false) c11_10), W_seq_reg]
theorem c11_1_s (hw : Cur w) : W Try.prog 34 V11 c11_1 Q e w = (W Try.prog 34 V11 c11_9 (seqQ (fun e w => W Try.prog 34 V11 c11_2 Q e w) Q) e w) := by rw [(by kernel_rfl : c11_1 = .seq c11_9 c11_2), W_seq]
theorem c11_s (hw : Cur w) : W Try.prog 34 V11 c11 Q e w = (opsW (nx Try.prog) mv gdP 34 V11 o11_0 (fun e w => W Try.prog 34 V11 c11_1 Q e w) o11_0.toList [] e e w) := by rw [(by kernel_rfl : c11 = .seq (.region 0 o11_0 false) c11_1), W_seq_reg]
theorem call11 {a0 a1 a2 : Value} {w : World} {R : Value → World → Prop} (h : W Try.prog 34 V11 c11 (retQ Try.prog [.tmp 6, .tmp 7] R) (argE [a0, a1, a2]) w) : CallsN Try.prog 11 [a0, a1, a2] w R :=
  callsN_of_W (c := c11) (rs := [.tmp 6, .tmp 7]) V11 Try.ntmps11 (by rw [Try.results11]) mixed Try.func11 (by kernel_rfl) (by kernel_rfl) (by kernel_rfl) (by kernel_rfl) (by simp) h
noncomputable def hk11 := And.intro (@o11_0_eq) <| And.intro (@o11_3_eq) <| And.intro (@o11_4_eq) <| And.intro (@o11_7_eq) <| And.intro (@c11_5_s) <| And.intro (@o11_5_eq) <| And.intro (@o11_6_eq) <| And.intro (@c11_8_s) <| And.intro (@c11_7_s) <| And.intro (@c11_6_s) <| And.intro (@c11_4_s) <| And.intro (@c11_3_s) <| And.intro (@c11_2_s) <| And.intro (@o11_1_eq) <| And.intro (@o11_2_eq) <| And.intro (@c11_11_s) <| And.intro (@c11_10_s) <| And.intro (@c11_9_s) <| And.intro (@c11_1_s) <| @c11_s
-- K11: ↓hk11
/-! ### (*vouch/stream.Log) . First$1 -/
def V22 : Nat → Bool := fun i => [0, 1, 3].elem i
noncomputable def c22 : Code := (Try.f22.body.getD .skip)
noncomputable def o22_0 : Array Oper := rO (cL c22)
noncomputable def c22_1 : Code := (cR c22)
noncomputable def o22_1 : Array Oper := rO (cL c22_1)
theorem o22_0_eq : opsW N M G 7 V22 o22_0 k o22_0.toList [] e e w =
    (M (Value.bool false) fun t3 =>
    k (Env.p e 3 t3) w) := nr (by kernel_rfl)
theorem o22_1_eq : opsW N M G 7 V22 o22_1 k o22_1.toList [] e e w =
    (M (e 0) fun t4 =>
    N (xv (Instr.loadAt 9 (e 1))) w fun t5 w =>
    N (xcall (Value.func (Fn.func 23) #[] #[]) [t4, t5]) w fun t6 w =>
    M t6 fun t3 =>
    k (Env.p e 3 t3) w) := nr (by kernel_rfl)
theorem c22_1_s (hw : Cur w) : W Try.prog 7 V22 c22_1 Q e w = (opsW (nx Try.prog) mv gdP 7 V22 o22_1 (fun e w => Q .ret e w) o22_1.toList [] e e w) := by rw [(by kernel_rfl : c22_1 = .seq (.region 1 o22_1 false) Code.ret), W_seq_reg]; simp only [W_ret, W_skip, W_exit, W_label]
theorem c22_s (hw : Cur w) : W Try.prog 7 V22 c22 Q e w = (opsW (nx Try.prog) mv gdP 7 V22 o22_0 (fun e w => W Try.prog 7 V22 c22_1 Q e w) o22_0.toList [] e e w) := by rw [(by kernel_rfl : c22 = .seq (.region 0 o22_0 false) c22_1), W_seq_reg]
theorem call22 {a0 a1 : Value} {w : World} {R : Value → World → Prop} (h : W Try.prog 7 V22 c22 (retQ Try.prog [.tmp 3] R) (argE [a0, a1]) w) : CallsN Try.prog 22 [a0, a1] w R :=
  callsN_of_W (c := c22) (rs := [.tmp 3]) V22 Try.ntmps22 (by rw [Try.results22]) mixed Try.func22 (by kernel_rfl) (by kernel_rfl) (by kernel_rfl) (by kernel_rfl) (by simp) h
noncomputable def hk22 := And.intro (@o22_0_eq) <| And.intro (@o22_1_eq) <| And.intro (@c22_1_s) <| @c22_s
-- K22: ↓hk22
/-! ### (*vouch/stream.Log) . Last -/
def V13 : Nat → Bool := fun i => [0, 2, 4].elem i
noncomputable def c13 : Code := (Try.f13.body.getD .skip)
noncomputable def o13_0 : Array Oper := rO (cL c13)
noncomputable def c13_1 : Code := (cR c13)
noncomputable def c13_2 : Code := (cR c13_1)
noncomputable def o13_3 : Array Oper := rO (cL c13_2)
noncomputable def c13_3 : Code := (cL c13_1)
noncomputable def o13_1 : Array Oper := rO (cL c13_3)
noncomputable def c13_4 : Code := (cR c13_3)
noncomputable def c13_5 : Code := (cL c13_4)
noncomputable def o13_2 : Array Oper := rO (cL c13_5)
theorem o13_0_eq : opsW N M G 10 V13 o13_0 k o13_0.toList [] e e w =
    (M (Value.int IntKind.i64 0) fun t2 =>
    k (Env.p e 2 t2) w) := nr (by kernel_rfl)
theorem o13_3_eq : opsW N M G 10 V13 o13_3 k o13_3.toList [] e e w =
    (M (e 0) fun t5 =>
    N (xnil t5) w fun t6 w =>
    N (xv (Instr.fieldAt 56 t6 0)) w fun t7 w =>
    N (xv (Instr.loadAt 22 t7)) w fun t8 w =>
    N (builtin Builtin.len #[22] 3 ([false]).toArray ([t8]).toArray) w fun t9 w =>
    M t9 fun t2 =>
    k (Env.p e 2 t2) w) := nr (by kernel_rfl)
theorem c13_2_s (hw : Cur w) : W Try.prog 10 V13 c13_2 Q e w = (opsW (nx Try.prog) mv gdP 10 V13 o13_3 (fun e w => Q .ret e w) o13_3.toList [] e e w) := by rw [(by kernel_rfl : c13_2 = .seq (.region 3 o13_3 false) Code.ret), W_seq_reg]; simp only [W_ret, W_skip, W_exit, W_label]
theorem o13_1_eq : opsW N M G 10 V13 o13_1 k o13_1.toList [] e e w =
    (M (e 0) fun t3 =>
    N (xv (xbin BinOp.eql 24 (Operand.tmp 3) (Operand.const (Value.pointer none)) t3 (Value.pointer none))) w fun t4 w =>
    k (Env.p e 4 t4) w) := nr (by kernel_rfl)
theorem o13_2_eq : opsW N M G 10 V13 o13_2 k o13_2.toList [] e e w =
    (M (Value.int IntKind.i64 0) fun t2 =>
    k (Env.p e 2 t2) w) := nr (by kernel_rfl)
theorem c13_5_s (hw : Cur w) : W Try.prog 10 V13 c13_5 Q e w = (opsW (nx Try.prog) mv gdP 10 V13 o13_2 (fun e w => Q .ret e w) o13_2.toList [] e e w) := by rw [(by kernel_rfl : c13_5 = .seq (.region 2 o13_2 false) Code.ret), W_seq_reg]; simp only [W_ret, W_skip, W_exit, W_label]
theorem c13_4_v : opV V13 (.tmp 4) = true := by kernel_rfl
theorem c13_4_s (hw : Cur w) : W Try.prog 10 V13 c13_4 Q e w = (condP (ev e (.tmp 4)) (W Try.prog 10 V13 c13_5 Q e w) (Q .normal e w)) := by rw [(by kernel_rfl : c13_4 = .cond (.tmp 4) c13_5 Code.skip), W_cond, c13_4_v, cond_true]; simp only [W_ret, W_skip, W_exit, W_label]
theorem c13_3_s (hw : Cur w) : W Try.prog 10 V13 c13_3 Q e w = (opsW (nx Try.prog) mv gdP 10 V13 o13_1 (fun e w => W Try.prog 10 V13 c13_4 Q e w) o13_1.toList [] e e w) := by rw [(by kernel_rfl : c13_3 = .seq (.region 1 o13_1 false) c13_4), W_seq_reg]
theorem c13_1_s (hw : Cur w) : W Try.prog 10 V13 c13_1 Q e w = (W Try.prog 10 V13 c13_3 (seqQ (fun e w => W Try.prog 10 V13 c13_2 Q e w) Q) e w) := by rw [(by kernel_rfl : c13_1 = .seq c13_3 c13_2), W_seq]
theorem c13_s (hw : Cur w) : W Try.prog 10 V13 c13 Q e w = (opsW (nx Try.prog) mv gdP 10 V13 o13_0 (fun e w => W Try.prog 10 V13 c13_1 Q e w) o13_0.toList [] e e w) := by rw [(by kernel_rfl : c13 = .seq (.region 0 o13_0 false) c13_1), W_seq_reg]
theorem call13 {a0 : Value} {w : World} {R : Value → World → Prop} (h : W Try.prog 10 V13 c13 (retQ Try.prog [.tmp 2] R) (argE [a0]) w) : CallsN Try.prog 13 [a0] w R :=
  callsN_of_W (c := c13) (rs := [.tmp 2]) V13 Try.ntmps13 (by rw [Try.results13]) mixed Try.func13 (by kernel_rfl) (by kernel_rfl) (by kernel_rfl) (by kernel_rfl) (by simp) h
noncomputable def hk13 := And.intro (@o13_0_eq) <| And.intro (@o13_3_eq) <| And.intro (@c13_2_s) <| And.intro (@o13_1_eq) <| And.intro (@o13_2_eq) <| And.intro (@c13_5_s) <| And.intro (@c13_4_s) <| And.intro (@c13_3_s) <| And.intro (@c13_1_s) <| @c13_s
-- K13: ↓hk13
/-! ### (*vouch/stream.Log) . From -/
def V14 : Nat → Bool := fun i => [0, 1, 2, 6, 7, 8, 21].elem i
noncomputable def c14 : Code := (Try.f14.body.getD .skip)
noncomputable def o14_0 : Array Oper := rO (cL c14)
noncomputable def c14_1 : Code := (cR c14)
noncomputable def o14_1 : Array Oper := rO (cL c14_1)
noncomputable def c14_2 : Code := (cR c14_1)
noncomputable def c14_3 : Code := (cR c14_2)
noncomputable def o14_7 : Array Oper := rO (cL c14_3)
noncomputable def c14_4 : Code := (cL c14_2)
noncomputable def o14_2 : Array Oper := rO (cL c14_4)
noncomputable def c14_5 : Code := (cR c14_4)
noncomputable def c14_6 : Code := (cL c14_5)
noncomputable def c14_7 : Code := (cL c14_6)
noncomputable def c14_8 : Code := (cR c14_7)
noncomputable def c14_9 : Code := (cR c14_8)
noncomputable def o14_4 : Array Oper := rO c14_9
noncomputable def c14_10 : Code := (cL c14_8)
noncomputable def c14_11 : Code := (cL c14_10)
noncomputable def o14_5 : Array Oper := rO (cL c14_11)
noncomputable def c14_12 : Code := (cR c14_11)
noncomputable def o14_6 : Array Oper := rO c14_12
noncomputable def c14_13 : Code := (cL c14_7)
noncomputable def o14_3 : Array Oper := rO (cL c14_13)
noncomputable def c14_14 : Code := (cR c14_13)
theorem o14_0_eq : opsW N M G 35 V14 o14_0 k o14_0.toList [] e e w =
    (M (Value.slice none 0 0) fun t6 =>
    k (Env.p e 6 t6) w) := nr (by kernel_rfl)
theorem o14_1_eq : opsW N M G 35 V14 o14_1 k o14_1.toList [] e e w =
    (M (Value.slice none 0 0) fun t7 =>
    k (Env.p e 7 t7) w) := nr (by kernel_rfl)
theorem o14_7_eq : opsW N M G 35 V14 o14_7 k o14_7.toList [] e e w =
    (M (e 7) fun t34 =>
    M t34 fun t6 =>
    k (Env.p e 6 t6) w) := nr (by kernel_rfl)
theorem c14_3_s (hw : Cur w) : W Try.prog 35 V14 c14_3 Q e w = (opsW (nx Try.prog) mv gdP 35 V14 o14_7 (fun e w => Q .ret e w) o14_7.toList [] e e w) := by rw [(by kernel_rfl : c14_3 = .seq (.region 7 o14_7 false) Code.ret), W_seq_reg]; simp only [W_ret, W_skip, W_exit, W_label]
theorem o14_2_eq : opsW N M G 35 V14 o14_2 k o14_2.toList [] e e w =
    (M (e 1) fun t10 =>
    N (builtin Builtin.max #[2, 2] 2 ([false, true]).toArray ([t10, (Value.int IntKind.i64 1)]).toArray) w fun t11 w =>
    M t11 fun t1 =>
    k (Env.p e 1 t1) w) := nr (by kernel_rfl)
theorem o14_4_eq : opsW N M G 35 V14 o14_4 k o14_4.toList [] e e w =
    (M (e 1) fun t22 =>
    N (xv (xbin BinOp.add 2 (Operand.tmp 22) (Operand.const (Value.int IntKind.i64 1)) t22 (Value.int IntKind.i64 1))) w fun t23 w =>
    M t23 fun t1 =>
    k (Env.p e 1 t1) w) := nr (by kernel_rfl)
theorem c14_9_s (hw : Cur w) : W Try.prog 35 V14 c14_9 Q e w = (opsW (nx Try.prog) mv gdP 35 V14 o14_4 (fun e w => Q .normal e w) o14_4.toList [] e e w) := by rw [(by kernel_rfl : c14_9 = (.region 4 o14_4 false)), W_reg]
theorem o14_5_eq : opsW N M G 35 V14 o14_5 k o14_5.toList [] e e w =
    (M (e 0) fun t25 =>
    M (e 1) fun t26 =>
    N (xcall (Value.func (Fn.func 15) #[] #[]) [t25, t26]) w fun t27 w =>
    M t27 fun t24 =>
    N (xv (Instr.extract t24 0)) w fun t28 w =>
    N (xv (Instr.extract t24 1)) w fun t29 w =>
    N (xv (Instr.alloc 47 true (.tuple #[]))) w fun t8 w =>
    N (xu (Instr.storeAt 47 t8 t28)) w fun _ w =>
    M t29 fun t9 =>
    k (Env.p e 8 t8) w) := nr (by kernel_rfl)
theorem o14_6_eq : opsW N M G 35 V14 o14_6 k o14_6.toList [] e e w =
    (M (e 7) fun t30 =>
    N (xv (Instr.loadAt 47 (e 8))) w fun t31 w =>
    N (xv (Instr.buildSlice 36 1 ([(0, t31)]).toArray)) w fun t32 w =>
    N (builtin Builtin.append #[36, 36] 36 ([false, false]).toArray ([t30, t32]).toArray) w fun t33 w =>
    M t33 fun t7 =>
    k (Env.p e 7 t7) w) := nr (by kernel_rfl)
theorem c14_12_s (hw : Cur w) : W Try.prog 35 V14 c14_12 Q e w = (opsW (nx Try.prog) mv gdP 35 V14 o14_6 (fun e w => Q .normal e w) o14_6.toList [] e e w) := by rw [(by kernel_rfl : c14_12 = (.region 6 o14_6 false)), W_reg]
theorem c14_11_s (hw : Cur w) : W Try.prog 35 V14 c14_11 Q e w = (opsW (nx Try.prog) mv gdP 35 V14 o14_5 (fun e w => W Try.prog 35 V14 c14_12 Q e w) o14_5.toList [] e e w) := by rw [(by kernel_rfl : c14_11 = .seq (.region 5 o14_5 false) c14_12), W_seq_reg]
theorem c14_10_s (hw : Cur w) : W Try.prog 35 V14 c14_10 Q e w = (W Try.prog 35 V14 c14_11 (blockQ 1 Q) e w) := by rw [(by kernel_rfl : c14_10 = .block 1 c14_11), W_block]
theorem c14_8_s (hw : Cur w) : W Try.prog 35 V14 c14_8 Q e w = (W Try.prog 35 V14 c14_10 (seqQ (fun e w => W Try.prog 35 V14 c14_9 Q e w) Q) e w) := by rw [(by kernel_rfl : c14_8 = .seq c14_10 c14_9), W_seq]
theorem o14_3_eq : opsW N M G 35 V14 o14_3 k o14_3.toList [] e e w =
    (M (e 1) fun t12 =>
    M (e 0) fun t13 =>
    N (xcall (Value.func (Fn.func 13) #[] #[]) [t13]) w fun t14 w =>
    N (xv (xbin BinOp.leq 2 (Operand.tmp 12) (Operand.tmp 14) t12 t14)) w fun t15 w =>
    M t15 fun t16 =>
    G (isB t16 true) (fun K => M (e 7) fun v => K v w) (fun t17 w =>
    G (isB t16 true) (fun K => N (builtin Builtin.len #[36] 3 ([false]).toArray ([t17]).toArray) w K) (fun t18 w =>
    G (isB t16 true) (fun K => M (e 2) fun v => K v w) (fun t19 w =>
    G (isB t16 true) (fun K => N (xv (xbin BinOp.lss 3 (Operand.tmp 18) (Operand.tmp 19) t18 t19)) w K) (fun t20 w =>
    N (xpick t16 t20 (Value.bool false)) w fun t21 w =>
    k (Env.p e 21 t21) w) w) w) w) w) := nr (by kernel_rfl)
theorem c14_14_v : opV V14 (.tmp 21) = true := by kernel_rfl
theorem c14_14_s (hw : Cur w) : W Try.prog 35 V14 c14_14 Q e w = (condP (ev e (.tmp 21)) (Q .normal e w) (Q (.exit 0) e w)) := by rw [(by kernel_rfl : c14_14 = .cond (.tmp 21) Code.skip (Code.exit 0)), W_cond, c14_14_v, cond_true]; simp only [W_ret, W_skip, W_exit, W_label]
theorem c14_13_s (hw : Cur w) : W Try.prog 35 V14 c14_13 Q e w = (opsW (nx Try.prog) mv gdP 35 V14 o14_3 (fun e w => W Try.prog 35 V14 c14_14 Q e w) o14_3.toList [] e e w) := by rw [(by kernel_rfl : c14_13 = .seq (.region 3 o14_3 false) c14_14), W_seq_reg]
theorem c14_7_s (hw : Cur w) : W Try.prog 35 V14 c14_7 Q e w = (W Try.prog 35 V14 c14_13 (seqQ (fun e w => W Try.prog 35 V14 c14_8 Q e w) Q) e w) := by rw [(by kernel_rfl : c14_7 = .seq c14_13 c14_8), W_seq]
theorem c14_6_s (hw : Cur w) : W Try.prog 35 V14 c14_6 Q e w = (LoopP (fun e w k => W Try.prog 35 V14 c14_7 (seqQ k Q) e w) e w) := by rw [(by kernel_rfl : c14_6 = .loop c14_7), W_loop]
theorem c14_5_s (hw : Cur w) : W Try.prog 35 V14 c14_5 Q e w = (W Try.prog 35 V14 c14_6 (blockQ 0 Q) e w) := by rw [(by kernel_rfl : c14_5 = .block 0 c14_6), W_block]
theorem c14_4_s (hw : Cur w) : W Try.prog 35 V14 c14_4 Q e w = (opsW (nx Try.prog) mv gdP 35 V14 o14_2 (fun e w => W Try.prog 35 V14 c14_5 Q e w) o14_2.toList [] e e w) := by rw [(by kernel_rfl : c14_4 = .seq (.region 2 o14_2 false) c14_5), W_seq_reg]
theorem c14_2_s (hw : Cur w) : W Try.prog 35 V14 c14_2 Q e w = (W Try.prog 35 V14 c14_4 (seqQ (fun e w => W Try.prog 35 V14 c14_3 Q e w) Q) e w) := by rw [(by kernel_rfl : c14_2 = .seq c14_4 c14_3), W_seq]
theorem c14_1_s (hw : Cur w) : W Try.prog 35 V14 c14_1 Q e w = (opsW (nx Try.prog) mv gdP 35 V14 o14_1 (fun e w => W Try.prog 35 V14 c14_2 Q e w) o14_1.toList [] e e w) := by rw [(by kernel_rfl : c14_1 = .seq (.region 1 o14_1 false) c14_2), W_seq_reg]
theorem c14_s (hw : Cur w) : W Try.prog 35 V14 c14 Q e w = (opsW (nx Try.prog) mv gdP 35 V14 o14_0 (fun e w => W Try.prog 35 V14 c14_1 Q e w) o14_0.toList [] e e w) := by rw [(by kernel_rfl : c14 = .seq (.region 0 o14_0 false) c14_1), W_seq_reg]
theorem call14 {a0 a1 a2 : Value} {w : World} {R : Value → World → Prop} (h : W Try.prog 35 V14 c14 (retQ Try.prog [.tmp 6] R) (argE [a0, a1, a2]) w) : CallsN Try.prog 14 [a0, a1, a2] w R :=
  callsN_of_W (c := c14) (rs := [.tmp 6]) V14 Try.ntmps14 (by rw [Try.results14]) mixed Try.func14 (by kernel_rfl) (by kernel_rfl) (by kernel_rfl) (by kernel_rfl) (by simp) h
noncomputable def hk14 := And.intro (@o14_0_eq) <| And.intro (@o14_1_eq) <| And.intro (@o14_7_eq) <| And.intro (@c14_3_s) <| And.intro (@o14_2_eq) <| And.intro (@o14_4_eq) <| And.intro (@c14_9_s) <| And.intro (@o14_5_eq) <| And.intro (@o14_6_eq) <| And.intro (@c14_12_s) <| And.intro (@c14_11_s) <| And.intro (@c14_10_s) <| And.intro (@c14_8_s) <| And.intro (@o14_3_eq) <| And.intro (@c14_14_s) <| And.intro (@c14_13_s) <| And.intro (@c14_7_s) <| And.intro (@c14_6_s) <| And.intro (@c14_5_s) <| And.intro (@c14_4_s) <| And.intro (@c14_2_s) <| And.intro (@c14_1_s) <| @c14_s
-- K14: ↓hk14
/-! ### (*vouch/stream.Log) . Get -/
def V15 : Nat → Bool := fun i => [0, 1, 4, 5, 13].elem i
noncomputable def c15 : Code := (Try.f15.body.getD .skip)
noncomputable def o15_0 : Array Oper := rO (cL c15)
noncomputable def c15_1 : Code := (cR c15)
noncomputable def c15_2 : Code := (cR c15_1)
noncomputable def o15_3 : Array Oper := rO (cL c15_2)
noncomputable def c15_3 : Code := (cL c15_1)
noncomputable def o15_1 : Array Oper := rO (cL c15_3)
noncomputable def c15_4 : Code := (cR c15_3)
noncomputable def c15_5 : Code := (cL c15_4)
noncomputable def o15_2 : Array Oper := rO (cL c15_5)
theorem o15_0_eq : opsW N M G 26 V15 o15_0 k o15_0.toList [] e e w =
    (N (xv (Instr.alloc 47 true (.tuple #[]))) w fun t4 w =>
    M (Value.int IntKind.i64 0) fun t5 =>
    k (Env.p (Env.p e 4 t4) 5 t5) w) := nr (by kernel_rfl)
theorem o15_3_eq : opsW N M G 26 V15 o15_3 k o15_3.toList [] e e w =
    (M (e 1) fun t15 =>
    M (e 0) fun t16 =>
    N (xnil t16) w fun t17 w =>
    N (xv (Instr.fieldAt 56 t17 0)) w fun t18 w =>
    N (xv (Instr.loadAt 22 t18)) w fun t19 w =>
    M (e 1) fun t20 =>
    N (xv (xbin BinOp.sub 2 (Operand.tmp 20) (Operand.const (Value.int IntKind.i64 1)) t20 (Value.int IntKind.i64 1))) w fun t21 w =>
    N (xv (Instr.indexAt 22 t19 t21)) w fun t22 w =>
    N (xv (Instr.loadAt 30 t22)) w fun t23 w =>
    N (xcall (Value.func (Fn.func 20) #[] #[]) [t23]) w fun t24 w =>
    N (xv (Instr.build 47 ([(0, t15), (1, t24)]).toArray)) w fun t25 w =>
    N (xu (Instr.storeAt 47 (e 4) t25)) w fun _ w =>
    M (Value.int IntKind.i64 0) fun t5 =>
    k (Env.p e 5 t5) w) := nr (by kernel_rfl)
theorem c15_2_s (hw : Cur w) : W Try.prog 26 V15 c15_2 Q e w = (opsW (nx Try.prog) mv gdP 26 V15 o15_3 (fun e w => Q .ret e w) o15_3.toList [] e e w) := by rw [(by kernel_rfl : c15_2 = .seq (.region 3 o15_3 false) Code.ret), W_seq_reg]; simp only [W_ret, W_skip, W_exit, W_label]
theorem o15_1_eq : opsW N M G 26 V15 o15_1 k o15_1.toList [] e e w =
    (M (e 1) fun t6 =>
    N (xv (xbin BinOp.lss 2 (Operand.tmp 6) (Operand.const (Value.int IntKind.i64 1)) t6 (Value.int IntKind.i64 1))) w fun t7 w =>
    M t7 fun t8 =>
    G (isB t8 false) (fun K => M (e 1) fun v => K v w) (fun t9 w =>
    G (isB t8 false) (fun K => M (e 0) fun v => K v w) (fun t10 w =>
    G (isB t8 false) (fun K => N (xcall (Value.func (Fn.func 13) #[] #[]) [t10]) w K) (fun t11 w =>
    G (isB t8 false) (fun K => N (xv (xbin BinOp.gtr 2 (Operand.tmp 9) (Operand.tmp 11) t9 t11)) w K) (fun t12 w =>
    N (xpick t8 (Value.bool true) t12) w fun t13 w =>
    k (Env.p e 13 t13) w) w) w) w) w) := nr (by kernel_rfl)
theorem o15_2_eq : opsW N M G 26 V15 o15_2 k o15_2.toList [] e e w =
    (N (xv (Instr.build 47 ([]).toArray)) w fun t14 w =>
    N (xu (Instr.storeAt 47 (e 4) t14)) w fun _ w =>
    M (Value.int IntKind.i64 3) fun t5 =>
    k (Env.p e 5 t5) w) := nr (by kernel_rfl)
theorem c15_5_s (hw : Cur w) : W Try.prog 26 V15 c15_5 Q e w = (opsW (nx Try.prog) mv gdP 26 V15 o15_2 (fun e w => Q .ret e w) o15_2.toList [] e e w) := by rw [(by kernel_rfl : c15_5 = .seq (.region 2 o15_2 false) Code.ret), W_seq_reg]; simp only [W_ret, W_skip, W_exit, W_label]
theorem c15_4_v : opV V15 (.tmp 13) = true := by kernel_rfl
theorem c15_4_s (hw : Cur w) : W Try.prog 26 V15 c15_4 Q e w = (condP (ev e (.tmp 13)) (W Try.prog 26 V15 c15_5 Q e w) (Q .normal e w)) := by rw [(by kernel_rfl : c15_4 = .cond (.tmp 13) c15_5 Code.skip), W_cond, c15_4_v, cond_true]; simp only [W_ret, W_skip, W_exit, W_label]
theorem c15_3_s (hw : Cur w) : W Try.prog 26 V15 c15_3 Q e w = (opsW (nx Try.prog) mv gdP 26 V15 o15_1 (fun e w => W Try.prog 26 V15 c15_4 Q e w) o15_1.toList [] e e w) := by rw [(by kernel_rfl : c15_3 = .seq (.region 1 o15_1 false) c15_4), W_seq_reg]
theorem c15_1_s (hw : Cur w) : W Try.prog 26 V15 c15_1 Q e w = (W Try.prog 26 V15 c15_3 (seqQ (fun e w => W Try.prog 26 V15 c15_2 Q e w) Q) e w) := by rw [(by kernel_rfl : c15_1 = .seq c15_3 c15_2), W_seq]
theorem c15_s (hw : Cur w) : W Try.prog 26 V15 c15 Q e w = (opsW (nx Try.prog) mv gdP 26 V15 o15_0 (fun e w => W Try.prog 26 V15 c15_1 Q e w) o15_0.toList [] e e w) := by rw [(by kernel_rfl : c15 = .seq (.region 0 o15_0 false) c15_1), W_seq_reg]
theorem call15 {a0 a1 : Value} {w : World} {R : Value → World → Prop} (h : W Try.prog 26 V15 c15 (retQ Try.prog [.cell 4 47, .tmp 5] R) (argE [a0, a1]) w) : CallsN Try.prog 15 [a0, a1] w R :=
  callsN_of_W (c := c15) (rs := [.cell 4 47, .tmp 5]) V15 Try.ntmps15 (by rw [Try.results15]) mixed Try.func15 (by kernel_rfl) (by kernel_rfl) (by kernel_rfl) (by kernel_rfl) (by simp) h
noncomputable def hk15 := And.intro (@o15_0_eq) <| And.intro (@o15_3_eq) <| And.intro (@c15_2_s) <| And.intro (@o15_1_eq) <| And.intro (@o15_2_eq) <| And.intro (@c15_5_s) <| And.intro (@c15_4_s) <| And.intro (@c15_3_s) <| And.intro (@c15_1_s) <| @c15_s
-- K15: ↓hk15
/-! ### (*vouch/stream.Log) . Clone -/
def V17 : Nat → Bool := fun i => [0, 2, 4].elem i
noncomputable def c17 : Code := (Try.f17.body.getD .skip)
noncomputable def o17_0 : Array Oper := rO (cL c17)
noncomputable def c17_1 : Code := (cR c17)
noncomputable def c17_2 : Code := (cR c17_1)
noncomputable def o17_3 : Array Oper := rO (cL c17_2)
noncomputable def c17_3 : Code := (cL c17_1)
noncomputable def o17_1 : Array Oper := rO (cL c17_3)
noncomputable def c17_4 : Code := (cR c17_3)
noncomputable def c17_5 : Code := (cL c17_4)
noncomputable def o17_2 : Array Oper := rO (cL c17_5)
theorem o17_0_eq : opsW N M G 12 V17 o17_0 k o17_0.toList [] e e w =
    (M (Value.pointer none) fun t2 =>
    k (Env.p e 2 t2) w) := nr (by kernel_rfl)
theorem o17_3_eq : opsW N M G 12 V17 o17_3 k o17_3.toList [] e e w =
    (M (e 0) fun t5 =>
    N (xnil t5) w fun t6 w =>
    N (xv (Instr.fieldAt 56 t6 0)) w fun t7 w =>
    N (xv (Instr.loadAt 22 t7)) w fun t8 w =>
    N (xcall (Value.func (Fn.func 28) #[] #[]) [t8]) w fun t9 w =>
    N (xv (Instr.build 56 ([(0, t9)]).toArray)) w fun t10 w =>
    N (xv (Instr.box 56 t10)) w fun t11 w =>
    M t11 fun t2 =>
    k (Env.p e 2 t2) w) := nr (by kernel_rfl)
theorem c17_2_s (hw : Cur w) : W Try.prog 12 V17 c17_2 Q e w = (opsW (nx Try.prog) mv gdP 12 V17 o17_3 (fun e w => Q .ret e w) o17_3.toList [] e e w) := by rw [(by kernel_rfl : c17_2 = .seq (.region 3 o17_3 false) Code.ret), W_seq_reg]; simp only [W_ret, W_skip, W_exit, W_label]
theorem o17_1_eq : opsW N M G 12 V17 o17_1 k o17_1.toList [] e e w =
    (M (e 0) fun t3 =>
    N (xv (xbin BinOp.eql 24 (Operand.tmp 3) (Operand.const (Value.pointer none)) t3 (Value.pointer none))) w fun t4 w =>
    k (Env.p e 4 t4) w) := nr (by kernel_rfl)
theorem o17_2_eq : opsW N M G 12 V17 o17_2 k o17_2.toList [] e e w =
    (M (Value.pointer none) fun t2 =>
    k (Env.p e 2 t2) w) := nr (by kernel_rfl)
theorem c17_5_s (hw : Cur w) : W Try.prog 12 V17 c17_5 Q e w = (opsW (nx Try.prog) mv gdP 12 V17 o17_2 (fun e w => Q .ret e w) o17_2.toList [] e e w) := by rw [(by kernel_rfl : c17_5 = .seq (.region 2 o17_2 false) Code.ret), W_seq_reg]; simp only [W_ret, W_skip, W_exit, W_label]
theorem c17_4_v : opV V17 (.tmp 4) = true := by kernel_rfl
theorem c17_4_s (hw : Cur w) : W Try.prog 12 V17 c17_4 Q e w = (condP (ev e (.tmp 4)) (W Try.prog 12 V17 c17_5 Q e w) (Q .normal e w)) := by rw [(by kernel_rfl : c17_4 = .cond (.tmp 4) c17_5 Code.skip), W_cond, c17_4_v, cond_true]; simp only [W_ret, W_skip, W_exit, W_label]
theorem c17_3_s (hw : Cur w) : W Try.prog 12 V17 c17_3 Q e w = (opsW (nx Try.prog) mv gdP 12 V17 o17_1 (fun e w => W Try.prog 12 V17 c17_4 Q e w) o17_1.toList [] e e w) := by rw [(by kernel_rfl : c17_3 = .seq (.region 1 o17_1 false) c17_4), W_seq_reg]
theorem c17_1_s (hw : Cur w) : W Try.prog 12 V17 c17_1 Q e w = (W Try.prog 12 V17 c17_3 (seqQ (fun e w => W Try.prog 12 V17 c17_2 Q e w) Q) e w) := by rw [(by kernel_rfl : c17_1 = .seq c17_3 c17_2), W_seq]
theorem c17_s (hw : Cur w) : W Try.prog 12 V17 c17 Q e w = (opsW (nx Try.prog) mv gdP 12 V17 o17_0 (fun e w => W Try.prog 12 V17 c17_1 Q e w) o17_0.toList [] e e w) := by rw [(by kernel_rfl : c17 = .seq (.region 0 o17_0 false) c17_1), W_seq_reg]
theorem call17 {a0 : Value} {w : World} {R : Value → World → Prop} (h : W Try.prog 12 V17 c17 (retQ Try.prog [.tmp 2] R) (argE [a0]) w) : CallsN Try.prog 17 [a0] w R :=
  callsN_of_W (c := c17) (rs := [.tmp 2]) V17 Try.ntmps17 (by rw [Try.results17]) mixed Try.func17 (by kernel_rfl) (by kernel_rfl) (by kernel_rfl) (by kernel_rfl) (by simp) h
noncomputable def hk17 := And.intro (@o17_0_eq) <| And.intro (@o17_3_eq) <| And.intro (@c17_2_s) <| And.intro (@o17_1_eq) <| And.intro (@o17_2_eq) <| And.intro (@c17_5_s) <| And.intro (@c17_4_s) <| And.intro (@c17_3_s) <| And.intro (@c17_1_s) <| @c17_s
-- K17: ↓hk17
/-! ### vouch/stream.check -/
def V19 : Nat → Bool := fun i => [0, 2, 4, 5, 13, 14, 15, 16, 17, 26, 36].elem i
noncomputable def c19 : Code := (Try.f19.body.getD .skip)
noncomputable def o19_0 : Array Oper := rO (cL c19)
noncomputable def c19_1 : Code := (cR c19)
noncomputable def c19_2 : Code := (cR c19_1)
noncomputable def c19_3 : Code := (cR c19_2)
noncomputable def o19_9 : Array Oper := rO (cL c19_3)
noncomputable def c19_4 : Code := (cR c19_3)
noncomputable def c19_5 : Code := (cR c19_4)
noncomputable def o19_12 : Array Oper := rO (cL c19_5)
noncomputable def c19_6 : Code := (cL c19_4)
noncomputable def o19_10 : Array Oper := rO (cL c19_6)
noncomputable def c19_7 : Code := (cR c19_6)
noncomputable def c19_8 : Code := (cL c19_7)
noncomputable def o19_11 : Array Oper := rO (cL c19_8)
noncomputable def c19_9 : Code := (cL c19_2)
noncomputable def o19_3 : Array Oper := rO (cL c19_9)
noncomputable def c19_10 : Code := (cR c19_9)
noncomputable def c19_11 : Code := (cL c19_10)
noncomputable def c19_12 : Code := (cL c19_11)
noncomputable def o19_4 : Array Oper := rO (cL c19_12)
noncomputable def c19_13 : Code := (cR c19_12)
noncomputable def c19_14 : Code := (cR c19_13)
noncomputable def c19_15 : Code := (cR c19_14)
noncomputable def o19_8 : Array Oper := rO c19_15
noncomputable def c19_16 : Code := (cL c19_14)
noncomputable def c19_17 : Code := (cL c19_16)
noncomputable def o19_5 : Array Oper := rO (cL c19_17)
noncomputable def c19_18 : Code := (cR c19_17)
noncomputable def o19_6 : Array Oper := rO (cL c19_18)
noncomputable def c19_19 : Code := (cR c19_18)
noncomputable def c19_20 : Code := (cL c19_19)
noncomputable def o19_7 : Array Oper := rO (cL c19_20)
noncomputable def c19_21 : Code := (cL c19_13)
noncomputable def c19_22 : Code := (cL c19_1)
noncomputable def o19_1 : Array Oper := rO (cL c19_22)
noncomputable def c19_23 : Code := (cR c19_22)
noncomputable def c19_24 : Code := (cL c19_23)
noncomputable def o19_2 : Array Oper := rO (cL c19_24)
theorem o19_0_eq : opsW N M G 37 V19 o19_0 k o19_0.toList [] e e w =
    (M (Value.int IntKind.i64 0) fun t2 =>
    k (Env.p e 2 t2) w) := nr (by kernel_rfl)
theorem o19_9_eq : opsW N M G 37 V19 o19_9 k o19_9.toList [] e e w =
    (M (e 0) fun t28 =>
    N (xcall (Value.func (Fn.func 30) #[] #[]) [t28]) w fun t29 w =>
    N (xcall (Value.func (Fn.func 29) #[] #[]) [t29]) w fun t30 w =>
    M t30 fun t5 =>
    k (Env.p e 5 t5) w) := nr (by kernel_rfl)
theorem o19_12_eq : opsW N M G 37 V19 o19_12 k o19_12.toList [] e e w =
    (M (Value.int IntKind.i64 0) fun t2 =>
    k (Env.p e 2 t2) w) := nr (by kernel_rfl)
theorem c19_5_s (hw : Cur w) : W Try.prog 37 V19 c19_5 Q e w = (opsW (nx Try.prog) mv gdP 37 V19 o19_12 (fun e w => Q .ret e w) o19_12.toList [] e e w) := by rw [(by kernel_rfl : c19_5 = .seq (.region 12 o19_12 false) Code.ret), W_seq_reg]; simp only [W_ret, W_skip, W_exit, W_label]
theorem o19_10_eq : opsW N M G 37 V19 o19_10 k o19_10.toList [] e e w =
    (M (e 5) fun t31 =>
    N (xcall (Value.func (Fn.func 31) #[] #[]) [t31]) w fun t32 w =>
    N (builtin Builtin.len #[30] 3 ([false]).toArray ([t32]).toArray) w fun t33 w =>
    M (e 0) fun t34 =>
    N (builtin Builtin.len #[30] 3 ([false]).toArray ([t34]).toArray) w fun t35 w =>
    N (xv (xbin BinOp.lss 3 (Operand.tmp 33) (Operand.tmp 35) t33 t35)) w fun t36 w =>
    k (Env.p e 36 t36) w) := nr (by kernel_rfl)
theorem o19_11_eq : opsW N M G 37 V19 o19_11 k o19_11.toList [] e e w =
    (M (Value.int IntKind.i64 22) fun t2 =>
    k (Env.p e 2 t2) w) := nr (by kernel_rfl)
theorem c19_8_s (hw : Cur w) : W Try.prog 37 V19 c19_8 Q e w = (opsW (nx Try.prog) mv gdP 37 V19 o19_11 (fun e w => Q .ret e w) o19_11.toList [] e e w) := by rw [(by kernel_rfl : c19_8 = .seq (.region 11 o19_11 false) Code.ret), W_seq_reg]; simp only [W_ret, W_skip, W_exit, W_label]
theorem c19_7_v : opV V19 (.tmp 36) = true := by kernel_rfl
theorem c19_7_s (hw : Cur w) : W Try.prog 37 V19 c19_7 Q e w = (condP (ev e (.tmp 36)) (W Try.prog 37 V19 c19_8 Q e w) (Q .normal e w)) := by rw [(by kernel_rfl : c19_7 = .cond (.tmp 36) c19_8 Code.skip), W_cond, c19_7_v, cond_true]; simp only [W_ret, W_skip, W_exit, W_label]
theorem c19_6_s (hw : Cur w) : W Try.prog 37 V19 c19_6 Q e w = (opsW (nx Try.prog) mv gdP 37 V19 o19_10 (fun e w => W Try.prog 37 V19 c19_7 Q e w) o19_10.toList [] e e w) := by rw [(by kernel_rfl : c19_6 = .seq (.region 10 o19_10 false) c19_7), W_seq_reg]
theorem c19_4_s (hw : Cur w) : W Try.prog 37 V19 c19_4 Q e w = (W Try.prog 37 V19 c19_6 (seqQ (fun e w => W Try.prog 37 V19 c19_5 Q e w) Q) e w) := by rw [(by kernel_rfl : c19_4 = .seq c19_6 c19_5), W_seq]
theorem c19_3_s (hw : Cur w) : W Try.prog 37 V19 c19_3 Q e w = (opsW (nx Try.prog) mv gdP 37 V19 o19_9 (fun e w => W Try.prog 37 V19 c19_4 Q e w) o19_9.toList [] e e w) := by rw [(by kernel_rfl : c19_3 = .seq (.region 9 o19_9 false) c19_4), W_seq_reg]
theorem o19_3_eq : opsW N M G 37 V19 o19_3 k o19_3.toList [] e e w =
    (M (e 0) fun t14 =>
    N (builtin Builtin.len #[30] 3 ([false]).toArray ([t14]).toArray) w fun t15 w =>
    M (Value.int IntKind.i64 0) fun t16 =>
    k (Env.p (Env.p (Env.p e 14 t14) 15 t15) 16 t16) w) := nr (by kernel_rfl)
theorem o19_4_eq : opsW N M G 37 V19 o19_4 k o19_4.toList [] e e w =
    (N (xv (xbin BinOp.lss 3 (Operand.tmp 16) (Operand.tmp 15) (e 16) (e 15))) w fun t17 w =>
    k (Env.p e 17 t17) w) := nr (by kernel_rfl)
theorem o19_8_eq : opsW N M G 37 V19 o19_8 k o19_8.toList [] e e w =
    (N (xv (xbin BinOp.add 3 (Operand.tmp 16) (Operand.const (Value.int IntKind.i64 1)) (e 16) (Value.int IntKind.i64 1))) w fun t27 w =>
    M t27 fun t16 =>
    k (Env.p e 16 t16) w) := nr (by kernel_rfl)
theorem c19_15_s (hw : Cur w) : W Try.prog 37 V19 c19_15 Q e w = (opsW (nx Try.prog) mv gdP 37 V19 o19_8 (fun e w => Q .normal e w) o19_8.toList [] e e w) := by rw [(by kernel_rfl : c19_15 = (.region 8 o19_8 false)), W_reg]
theorem o19_5_eq : opsW N M G 37 V19 o19_5 k o19_5.toList [] e e w =
    (N (xv (Instr.indexAt 30 (e 14) (e 16))) w fun t18 w =>
    N (xv (Instr.loadAt 9 t18)) w fun t19 w =>
    M t19 fun t4 =>
    k (Env.p e 4 t4) w) := nr (by kernel_rfl)
theorem o19_6_eq : opsW N M G 37 V19 o19_6 k o19_6.toList [] e e w =
    (M (e 4) fun t20 =>
    N (xv (xbin BinOp.eql 9 (Operand.tmp 20) (Operand.const (Value.string ⟨#[]⟩)) t20 (Value.string ⟨#[]⟩))) w fun t21 w =>
    M t21 fun t22 =>
    G (isB t22 false) (fun K => M (e 4) fun v => K v w) (fun t23 w =>
    G (isB t22 false) (fun K => N (builtin Builtin.len #[9] 3 ([false]).toArray ([t23]).toArray) w K) (fun t24 w =>
    G (isB t22 false) (fun K => N (xv (xbin BinOp.gtr 3 (Operand.tmp 24) (Operand.const (Value.int IntKind.i64 32)) t24 (Value.int IntKind.i64 32))) w K) (fun t25 w =>
    N (xpick t22 (Value.bool true) t25) w fun t26 w =>
    k (Env.p e 26 t26) w) w) w) w) := nr (by kernel_rfl)
theorem o19_7_eq : opsW N M G 37 V19 o19_7 k o19_7.toList [] e e w =
    (M (Value.int IntKind.i64 1) fun t2 =>
    k (Env.p e 2 t2) w) := nr (by kernel_rfl)
theorem c19_20_s (hw : Cur w) : W Try.prog 37 V19 c19_20 Q e w = (opsW (nx Try.prog) mv gdP 37 V19 o19_7 (fun e w => Q .ret e w) o19_7.toList [] e e w) := by rw [(by kernel_rfl : c19_20 = .seq (.region 7 o19_7 false) Code.ret), W_seq_reg]; simp only [W_ret, W_skip, W_exit, W_label]
theorem c19_19_v : opV V19 (.tmp 26) = true := by kernel_rfl
theorem c19_19_s (hw : Cur w) : W Try.prog 37 V19 c19_19 Q e w = (condP (ev e (.tmp 26)) (W Try.prog 37 V19 c19_20 Q e w) (Q .normal e w)) := by rw [(by kernel_rfl : c19_19 = .cond (.tmp 26) c19_20 Code.skip), W_cond, c19_19_v, cond_true]; simp only [W_ret, W_skip, W_exit, W_label]
theorem c19_18_s (hw : Cur w) : W Try.prog 37 V19 c19_18 Q e w = (opsW (nx Try.prog) mv gdP 37 V19 o19_6 (fun e w => W Try.prog 37 V19 c19_19 Q e w) o19_6.toList [] e e w) := by rw [(by kernel_rfl : c19_18 = .seq (.region 6 o19_6 false) c19_19), W_seq_reg]
theorem c19_17_s (hw : Cur w) : W Try.prog 37 V19 c19_17 Q e w = (opsW (nx Try.prog) mv gdP 37 V19 o19_5 (fun e w => W Try.prog 37 V19 c19_18 Q e w) o19_5.toList [] e e w) := by rw [(by kernel_rfl : c19_17 = .seq (.region 5 o19_5 false) c19_18), W_seq_reg]
theorem c19_16_s (hw : Cur w) : W Try.prog 37 V19 c19_16 Q e w = (W Try.prog 37 V19 c19_17 (blockQ 1 Q) e w) := by rw [(by kernel_rfl : c19_16 = .block 1 c19_17), W_block]
theorem c19_14_s (hw : Cur w) : W Try.prog 37 V19 c19_14 Q e w = (W Try.prog 37 V19 c19_16 (seqQ (fun e w => W Try.prog 37 V19 c19_15 Q e w) Q) e w) := by rw [(by kernel_rfl : c19_14 = .seq c19_16 c19_15), W_seq]
theorem c19_21_v : opV V19 (.tmp 17) = true := by kernel_rfl
theorem c19_21_s (hw : Cur w) : W Try.prog 37 V19 c19_21 Q e w = (condP (ev e (.tmp 17)) (Q .normal e w) (Q (.exit 0) e w)) := by rw [(by kernel_rfl : c19_21 = .cond (.tmp 17) Code.skip (Code.exit 0)), W_cond, c19_21_v, cond_true]; simp only [W_ret, W_skip, W_exit, W_label]
theorem c19_13_s (hw : Cur w) : W Try.prog 37 V19 c19_13 Q e w = (W Try.prog 37 V19 c19_21 (seqQ (fun e w => W Try.prog 37 V19 c19_14 Q e w) Q) e w) := by rw [(by kernel_rfl : c19_13 = .seq c19_21 c19_14), W_seq]
theorem c19_12_s (hw : Cur w) : W Try.prog 37 V19 c19_12 Q e w = (opsW (nx Try.prog) mv gdP 37 V19 o19_4 (fun e w => W Try.prog 37 V19 c19_13 Q e w) o19_4.toList [] e e w) := by rw [(by kernel_rfl : c19_12 = .seq (.region 4 o19_4 false) c19_13), W_seq_reg]
theorem c19_11_s (hw : Cur w) : W Try.prog 37 V19 c19_11 Q e w = (LoopP (fun e w k => W Try.prog 37 V19 c19_12 (seqQ k Q) e w) e w) := by rw [(by kernel_rfl : c19_11 = .loop c19_12), W_loop]
theorem c19_10_s (hw : Cur w) : W Try.prog 37 V19 c19_10 Q e w = (W Try.prog 37 V19 c19_11 (blockQ 0 Q) e w) := by rw [(by kernel_rfl : c19_10 = .block 0 c19_11), W_block]
theorem c19_9_s (hw : Cur w) : W Try.prog 37 V19 c19_9 Q e w = (opsW (nx Try.prog) mv gdP 37 V19 o19_3 (fun e w => W Try.prog 37 V19 c19_10 Q e w) o19_3.toList [] e e w) := by rw [(by kernel_rfl : c19_9 = .seq (.region 3 o19_3 false) c19_10), W_seq_reg]
theorem c19_2_s (hw : Cur w) : W Try.prog 37 V19 c19_2 Q e w = (W Try.prog 37 V19 c19_9 (seqQ (fun e w => W Try.prog 37 V19 c19_3 Q e w) Q) e w) := by rw [(by kernel_rfl : c19_2 = .seq c19_9 c19_3), W_seq]
theorem o19_1_eq : opsW N M G 37 V19 o19_1 k o19_1.toList [] e e w =
    (M (e 0) fun t6 =>
    N (builtin Builtin.len #[30] 3 ([false]).toArray ([t6]).toArray) w fun t7 w =>
    N (xv (xbin BinOp.eql 3 (Operand.tmp 7) (Operand.const (Value.int IntKind.i64 0)) t7 (Value.int IntKind.i64 0))) w fun t8 w =>
    M t8 fun t9 =>
    G (isB t9 false) (fun K => M (e 0) fun v => K v w) (fun t10 w =>
    G (isB t9 false) (fun K => N (builtin Builtin.len #[30] 3 ([false]).toArray ([t10]).toArray) w K) (fun t11 w =>
    G (isB t9 false) (fun K => N (xv (xbin BinOp.gtr 3 (Operand.tmp 11) (Operand.const (Value.int IntKind.i64 8)) t11 (Value.int IntKind.i64 8))) w K) (fun t12 w =>
    N (xpick t9 (Value.bool true) t12) w fun t13 w =>
    k (Env.p e 13 t13) w) w) w) w) := nr (by kernel_rfl)
theorem o19_2_eq : opsW N M G 37 V19 o19_2 k o19_2.toList [] e e w =
    (M (Value.int IntKind.i64 1) fun t2 =>
    k (Env.p e 2 t2) w) := nr (by kernel_rfl)
theorem c19_24_s (hw : Cur w) : W Try.prog 37 V19 c19_24 Q e w = (opsW (nx Try.prog) mv gdP 37 V19 o19_2 (fun e w => Q .ret e w) o19_2.toList [] e e w) := by rw [(by kernel_rfl : c19_24 = .seq (.region 2 o19_2 false) Code.ret), W_seq_reg]; simp only [W_ret, W_skip, W_exit, W_label]
theorem c19_23_v : opV V19 (.tmp 13) = true := by kernel_rfl
theorem c19_23_s (hw : Cur w) : W Try.prog 37 V19 c19_23 Q e w = (condP (ev e (.tmp 13)) (W Try.prog 37 V19 c19_24 Q e w) (Q .normal e w)) := by rw [(by kernel_rfl : c19_23 = .cond (.tmp 13) c19_24 Code.skip), W_cond, c19_23_v, cond_true]; simp only [W_ret, W_skip, W_exit, W_label]
theorem c19_22_s (hw : Cur w) : W Try.prog 37 V19 c19_22 Q e w = (opsW (nx Try.prog) mv gdP 37 V19 o19_1 (fun e w => W Try.prog 37 V19 c19_23 Q e w) o19_1.toList [] e e w) := by rw [(by kernel_rfl : c19_22 = .seq (.region 1 o19_1 false) c19_23), W_seq_reg]
theorem c19_1_s (hw : Cur w) : W Try.prog 37 V19 c19_1 Q e w = (W Try.prog 37 V19 c19_22 (seqQ (fun e w => W Try.prog 37 V19 c19_2 Q e w) Q) e w) := by rw [(by kernel_rfl : c19_1 = .seq c19_22 c19_2), W_seq]
theorem c19_s (hw : Cur w) : W Try.prog 37 V19 c19 Q e w = (opsW (nx Try.prog) mv gdP 37 V19 o19_0 (fun e w => W Try.prog 37 V19 c19_1 Q e w) o19_0.toList [] e e w) := by rw [(by kernel_rfl : c19 = .seq (.region 0 o19_0 false) c19_1), W_seq_reg]
theorem call19 {a0 : Value} {w : World} {R : Value → World → Prop} (h : W Try.prog 37 V19 c19 (retQ Try.prog [.tmp 2] R) (argE [a0]) w) : CallsN Try.prog 19 [a0] w R :=
  callsN_of_W (c := c19) (rs := [.tmp 2]) V19 Try.ntmps19 (by rw [Try.results19]) mixed Try.func19 (by kernel_rfl) (by kernel_rfl) (by kernel_rfl) (by kernel_rfl) (by simp) h
noncomputable def hk19 := And.intro (@o19_0_eq) <| And.intro (@o19_9_eq) <| And.intro (@o19_12_eq) <| And.intro (@c19_5_s) <| And.intro (@o19_10_eq) <| And.intro (@o19_11_eq) <| And.intro (@c19_8_s) <| And.intro (@c19_7_s) <| And.intro (@c19_6_s) <| And.intro (@c19_4_s) <| And.intro (@c19_3_s) <| And.intro (@o19_3_eq) <| And.intro (@o19_4_eq) <| And.intro (@o19_8_eq) <| And.intro (@c19_15_s) <| And.intro (@o19_5_eq) <| And.intro (@o19_6_eq) <| And.intro (@o19_7_eq) <| And.intro (@c19_20_s) <| And.intro (@c19_19_s) <| And.intro (@c19_18_s) <| And.intro (@c19_17_s) <| And.intro (@c19_16_s) <| And.intro (@c19_14_s) <| And.intro (@c19_21_s) <| And.intro (@c19_13_s) <| And.intro (@c19_12_s) <| And.intro (@c19_11_s) <| And.intro (@c19_10_s) <| And.intro (@c19_9_s) <| And.intro (@c19_2_s) <| And.intro (@o19_1_eq) <| And.intro (@o19_2_eq) <| And.intro (@c19_24_s) <| And.intro (@c19_23_s) <| And.intro (@c19_22_s) <| And.intro (@c19_1_s) <| @c19_s
-- K19: ↓hk19
/-! ### slices.Clone[[]string,string] -/
def V20 : Nat → Bool := fun i => [0, 2, 4].elem i
noncomputable def c20 : Code := (Try.f20.body.getD .skip)
noncomputable def o20_0 : Array Oper := rO (cL c20)
noncomputable def c20_1 : Code := (cR c20)
noncomputable def c20_2 : Code := (cR c20_1)
noncomputable def o20_3 : Array Oper := rO (cL c20_2)
noncomputable def c20_3 : Code := (cL c20_1)
noncomputable def o20_1 : Array Oper := rO (cL c20_3)
noncomputable def c20_4 : Code := (cR c20_3)
noncomputable def c20_5 : Code := (cL c20_4)
noncomputable def o20_2 : Array Oper := rO (cL c20_5)
theorem o20_0_eq : opsW N M G 8 V20 o20_0 k o20_0.toList [] e e w =
    (M (Value.slice none 0 0) fun t2 =>
    k (Env.p e 2 t2) w) := nr (by kernel_rfl)
theorem o20_3_eq : opsW N M G 8 V20 o20_3 k o20_3.toList [] e e w =
    (N (xv (Instr.buildSlice 30 0 ([]).toArray)) w fun t5 w =>
    M (e 0) fun t6 =>
    N (builtin Builtin.append #[30, 30] 30 ([false, false]).toArray ([t5, t6]).toArray) w fun t7 w =>
    M t7 fun t2 =>
    k (Env.p e 2 t2) w) := nr (by kernel_rfl)
theorem c20_2_s (hw : Cur w) : W Try.prog 8 V20 c20_2 Q e w = (opsW (nx Try.prog) mv gdP 8 V20 o20_3 (fun e w => Q .ret e w) o20_3.toList [] e e w) := by rw [(by kernel_rfl : c20_2 = .seq (.region 3 o20_3 false) Code.ret), W_seq_reg]; simp only [W_ret, W_skip, W_exit, W_label]
theorem o20_1_eq : opsW N M G 8 V20 o20_1 k o20_1.toList [] e e w =
    (M (e 0) fun t3 =>
    N (xv (xbin BinOp.eql 30 (Operand.tmp 3) (Operand.const (Value.slice none 0 0)) t3 (Value.slice none 0 0))) w fun t4 w =>
    k (Env.p e 4 t4) w) := nr (by kernel_rfl)
theorem o20_2_eq : opsW N M G 8 V20 o20_2 k o20_2.toList [] e e w =
    (M (Value.slice none 0 0) fun t2 =>
    k (Env.p e 2 t2) w) := nr (by kernel_rfl)
theorem c20_5_s (hw : Cur w) : W Try.prog 8 V20 c20_5 Q e w = (opsW (nx Try.prog) mv gdP 8 V20 o20_2 (fun e w => Q .ret e w) o20_2.toList [] e e w) := by rw [(by kernel_rfl : c20_5 = .seq (.region 2 o20_2 false) Code.ret), W_seq_reg]; simp only [W_ret, W_skip, W_exit, W_label]
theorem c20_4_v : opV V20 (.tmp 4) = true := by kernel_rfl
theorem c20_4_s (hw : Cur w) : W Try.prog 8 V20 c20_4 Q e w = (condP (ev e (.tmp 4)) (W Try.prog 8 V20 c20_5 Q e w) (Q .normal e w)) := by rw [(by kernel_rfl : c20_4 = .cond (.tmp 4) c20_5 Code.skip), W_cond, c20_4_v, cond_true]; simp only [W_ret, W_skip, W_exit, W_label]
theorem c20_3_s (hw : Cur w) : W Try.prog 8 V20 c20_3 Q e w = (opsW (nx Try.prog) mv gdP 8 V20 o20_1 (fun e w => W Try.prog 8 V20 c20_4 Q e w) o20_1.toList [] e e w) := by rw [(by kernel_rfl : c20_3 = .seq (.region 1 o20_1 false) c20_4), W_seq_reg]
theorem c20_1_s (hw : Cur w) : W Try.prog 8 V20 c20_1 Q e w = (W Try.prog 8 V20 c20_3 (seqQ (fun e w => W Try.prog 8 V20 c20_2 Q e w) Q) e w) := by rw [(by kernel_rfl : c20_1 = .seq c20_3 c20_2), W_seq]
theorem c20_s (hw : Cur w) : W Try.prog 8 V20 c20 Q e w = (opsW (nx Try.prog) mv gdP 8 V20 o20_0 (fun e w => W Try.prog 8 V20 c20_1 Q e w) o20_0.toList [] e e w) := by rw [(by kernel_rfl : c20 = .seq (.region 0 o20_0 false) c20_1), W_seq_reg]
theorem call20 {a0 : Value} {w : World} {R : Value → World → Prop} (h : W Try.prog 8 V20 c20 (retQ Try.prog [.tmp 2] R) (argE [a0]) w) : CallsN Try.prog 20 [a0] w R :=
  callsN_of_W (c := c20) (rs := [.tmp 2]) V20 Try.ntmps20 (by rw [Try.results20]) mixed Try.func20 (by kernel_rfl) (by kernel_rfl) (by kernel_rfl) (by kernel_rfl) (by simp) h
noncomputable def hk20 := And.intro (@o20_0_eq) <| And.intro (@o20_3_eq) <| And.intro (@c20_2_s) <| And.intro (@o20_1_eq) <| And.intro (@o20_2_eq) <| And.intro (@c20_5_s) <| And.intro (@c20_4_s) <| And.intro (@c20_3_s) <| And.intro (@c20_1_s) <| @c20_s
-- K20: ↓hk20
/-! ### slices.Clone[[][]string,[]string] -/
def V28 : Nat → Bool := fun i => [0, 2, 4].elem i
noncomputable def c28 : Code := (Try.f28.body.getD .skip)
noncomputable def o28_0 : Array Oper := rO (cL c28)
noncomputable def c28_1 : Code := (cR c28)
noncomputable def c28_2 : Code := (cR c28_1)
noncomputable def o28_3 : Array Oper := rO (cL c28_2)
noncomputable def c28_3 : Code := (cL c28_1)
noncomputable def o28_1 : Array Oper := rO (cL c28_3)
noncomputable def c28_4 : Code := (cR c28_3)
noncomputable def c28_5 : Code := (cL c28_4)
noncomputable def o28_2 : Array Oper := rO (cL c28_5)
theorem o28_0_eq : opsW N M G 8 V28 o28_0 k o28_0.toList [] e e w =
    (M (Value.slice none 0 0) fun t2 =>
    k (Env.p e 2 t2) w) := nr (by kernel_rfl)
theorem o28_3_eq : opsW N M G 8 V28 o28_3 k o28_3.toList [] e e w =
    (N (xv (Instr.buildSlice 22 0 ([]).toArray)) w fun t5 w =>
    M (e 0) fun t6 =>
    N (builtin Builtin.append #[22, 22] 22 ([false, false]).toArray ([t5, t6]).toArray) w fun t7 w =>
    M t7 fun t2 =>
    k (Env.p e 2 t2) w) := nr (by kernel_rfl)
theorem c28_2_s (hw : Cur w) : W Try.prog 8 V28 c28_2 Q e w = (opsW (nx Try.prog) mv gdP 8 V28 o28_3 (fun e w => Q .ret e w) o28_3.toList [] e e w) := by rw [(by kernel_rfl : c28_2 = .seq (.region 3 o28_3 false) Code.ret), W_seq_reg]; simp only [W_ret, W_skip, W_exit, W_label]
theorem o28_1_eq : opsW N M G 8 V28 o28_1 k o28_1.toList [] e e w =
    (M (e 0) fun t3 =>
    N (xv (xbin BinOp.eql 22 (Operand.tmp 3) (Operand.const (Value.slice none 0 0)) t3 (Value.slice none 0 0))) w fun t4 w =>
    k (Env.p e 4 t4) w) := nr (by kernel_rfl)
theorem o28_2_eq : opsW N M G 8 V28 o28_2 k o28_2.toList [] e e w =
    (M (Value.slice none 0 0) fun t2 =>
    k (Env.p e 2 t2) w) := nr (by kernel_rfl)
theorem c28_5_s (hw : Cur w) : W Try.prog 8 V28 c28_5 Q e w = (opsW (nx Try.prog) mv gdP 8 V28 o28_2 (fun e w => Q .ret e w) o28_2.toList [] e e w) := by rw [(by kernel_rfl : c28_5 = .seq (.region 2 o28_2 false) Code.ret), W_seq_reg]; simp only [W_ret, W_skip, W_exit, W_label]
theorem c28_4_v : opV V28 (.tmp 4) = true := by kernel_rfl
theorem c28_4_s (hw : Cur w) : W Try.prog 8 V28 c28_4 Q e w = (condP (ev e (.tmp 4)) (W Try.prog 8 V28 c28_5 Q e w) (Q .normal e w)) := by rw [(by kernel_rfl : c28_4 = .cond (.tmp 4) c28_5 Code.skip), W_cond, c28_4_v, cond_true]; simp only [W_ret, W_skip, W_exit, W_label]
theorem c28_3_s (hw : Cur w) : W Try.prog 8 V28 c28_3 Q e w = (opsW (nx Try.prog) mv gdP 8 V28 o28_1 (fun e w => W Try.prog 8 V28 c28_4 Q e w) o28_1.toList [] e e w) := by rw [(by kernel_rfl : c28_3 = .seq (.region 1 o28_1 false) c28_4), W_seq_reg]
theorem c28_1_s (hw : Cur w) : W Try.prog 8 V28 c28_1 Q e w = (W Try.prog 8 V28 c28_3 (seqQ (fun e w => W Try.prog 8 V28 c28_2 Q e w) Q) e w) := by rw [(by kernel_rfl : c28_1 = .seq c28_3 c28_2), W_seq]
theorem c28_s (hw : Cur w) : W Try.prog 8 V28 c28 Q e w = (opsW (nx Try.prog) mv gdP 8 V28 o28_0 (fun e w => W Try.prog 8 V28 c28_1 Q e w) o28_0.toList [] e e w) := by rw [(by kernel_rfl : c28 = .seq (.region 0 o28_0 false) c28_1), W_seq_reg]
theorem call28 {a0 : Value} {w : World} {R : Value → World → Prop} (h : W Try.prog 8 V28 c28 (retQ Try.prog [.tmp 2] R) (argE [a0]) w) : CallsN Try.prog 28 [a0] w R :=
  callsN_of_W (c := c28) (rs := [.tmp 2]) V28 Try.ntmps28 (by rw [Try.results28]) mixed Try.func28 (by kernel_rfl) (by kernel_rfl) (by kernel_rfl) (by kernel_rfl) (by simp) h
noncomputable def hk28 := And.intro (@o28_0_eq) <| And.intro (@o28_3_eq) <| And.intro (@c28_2_s) <| And.intro (@o28_1_eq) <| And.intro (@o28_2_eq) <| And.intro (@c28_5_s) <| And.intro (@c28_4_s) <| And.intro (@c28_3_s) <| And.intro (@c28_1_s) <| @c28_s
-- K28: ↓hk28
/-! ### slices.IndexFunc[[][]string,[]string] -/
def V21 : Nat → Bool := fun i => [0, 1, 4, 5, 7, 8, 9, 16].elem i
noncomputable def c21 : Code := (Try.f21.body.getD .skip)
noncomputable def o21_0 : Array Oper := rO (cL c21)
noncomputable def c21_1 : Code := (cR c21)
noncomputable def c21_2 : Code := (cR c21_1)
noncomputable def o21_7 : Array Oper := rO (cL c21_2)
noncomputable def c21_3 : Code := (cL c21_1)
noncomputable def o21_1 : Array Oper := rO (cL c21_3)
noncomputable def c21_4 : Code := (cR c21_3)
noncomputable def c21_5 : Code := (cL c21_4)
noncomputable def c21_6 : Code := (cL c21_5)
noncomputable def o21_2 : Array Oper := rO (cL c21_6)
noncomputable def c21_7 : Code := (cR c21_6)
noncomputable def c21_8 : Code := (cR c21_7)
noncomputable def c21_9 : Code := (cR c21_8)
noncomputable def o21_6 : Array Oper := rO c21_9
noncomputable def c21_10 : Code := (cL c21_8)
noncomputable def c21_11 : Code := (cL c21_10)
noncomputable def o21_3 : Array Oper := rO (cL c21_11)
noncomputable def c21_12 : Code := (cR c21_11)
noncomputable def o21_4 : Array Oper := rO (cL c21_12)
noncomputable def c21_13 : Code := (cR c21_12)
noncomputable def c21_14 : Code := (cL c21_13)
noncomputable def o21_5 : Array Oper := rO (cL c21_14)
noncomputable def c21_15 : Code := (cL c21_7)
theorem o21_0_eq : opsW N M G 19 V21 o21_0 k o21_0.toList [] e e w =
    (M (Value.int IntKind.i64 0) fun t4 =>
    k (Env.p e 4 t4) w) := nr (by kernel_rfl)
theorem o21_7_eq : opsW N M G 19 V21 o21_7 k o21_7.toList [] e e w =
    (M (Value.int IntKind.i64 (-1)) fun t4 =>
    k (Env.p e 4 t4) w) := nr (by kernel_rfl)
theorem c21_2_s (hw : Cur w) : W Try.prog 19 V21 c21_2 Q e w = (opsW (nx Try.prog) mv gdP 19 V21 o21_7 (fun e w => Q .ret e w) o21_7.toList [] e e w) := by rw [(by kernel_rfl : c21_2 = .seq (.region 7 o21_7 false) Code.ret), W_seq_reg]; simp only [W_ret, W_skip, W_exit, W_label]
theorem o21_1_eq : opsW N M G 19 V21 o21_1 k o21_1.toList [] e e w =
    (M (e 0) fun t6 =>
    N (builtin Builtin.len #[22] 3 ([false]).toArray ([t6]).toArray) w fun t7 w =>
    M (Value.int IntKind.i64 0) fun t8 =>
    k (Env.p (Env.p e 7 t7) 8 t8) w) := nr (by kernel_rfl)
theorem o21_2_eq : opsW N M G 19 V21 o21_2 k o21_2.toList [] e e w =
    (N (xv (xbin BinOp.lss 3 (Operand.tmp 8) (Operand.tmp 7) (e 8) (e 7))) w fun t9 w =>
    k (Env.p e 9 t9) w) := nr (by kernel_rfl)
theorem o21_6_eq : opsW N M G 19 V21 o21_6 k o21_6.toList [] e e w =
    (N (xv (xbin BinOp.add 3 (Operand.tmp 8) (Operand.const (Value.int IntKind.i64 1)) (e 8) (Value.int IntKind.i64 1))) w fun t18 w =>
    M t18 fun t8 =>
    k (Env.p e 8 t8) w) := nr (by kernel_rfl)
theorem c21_9_s (hw : Cur w) : W Try.prog 19 V21 c21_9 Q e w = (opsW (nx Try.prog) mv gdP 19 V21 o21_6 (fun e w => Q .normal e w) o21_6.toList [] e e w) := by rw [(by kernel_rfl : c21_9 = (.region 6 o21_6 false)), W_reg]
theorem o21_3_eq : opsW N M G 19 V21 o21_3 k o21_3.toList [] e e w =
    (M (e 8) fun t10 =>
    M t10 fun t5 =>
    k (Env.p e 5 t5) w) := nr (by kernel_rfl)
theorem o21_4_eq : opsW N M G 19 V21 o21_4 k o21_4.toList [] e e w =
    (M (e 1) fun t11 =>
    M (e 0) fun t12 =>
    M (e 5) fun t13 =>
    N (xv (Instr.indexAt 22 t12 t13)) w fun t14 w =>
    N (xv (Instr.loadAt 30 t14)) w fun t15 w =>
    N (xcall t11 [t15]) w fun t16 w =>
    k (Env.p e 16 t16) w) := nr (by kernel_rfl)
theorem o21_5_eq : opsW N M G 19 V21 o21_5 k o21_5.toList [] e e w =
    (M (e 5) fun t17 =>
    M t17 fun t4 =>
    k (Env.p e 4 t4) w) := nr (by kernel_rfl)
theorem c21_14_s (hw : Cur w) : W Try.prog 19 V21 c21_14 Q e w = (opsW (nx Try.prog) mv gdP 19 V21 o21_5 (fun e w => Q .ret e w) o21_5.toList [] e e w) := by rw [(by kernel_rfl : c21_14 = .seq (.region 5 o21_5 false) Code.ret), W_seq_reg]; simp only [W_ret, W_skip, W_exit, W_label]
theorem c21_13_v : opV V21 (.tmp 16) = true := by kernel_rfl
theorem c21_13_s (hw : Cur w) : W Try.prog 19 V21 c21_13 Q e w = (condP (ev e (.tmp 16)) (W Try.prog 19 V21 c21_14 Q e w) (Q .normal e w)) := by rw [(by kernel_rfl : c21_13 = .cond (.tmp 16) c21_14 Code.skip), W_cond, c21_13_v, cond_true]; simp only [W_ret, W_skip, W_exit, W_label]
theorem c21_12_s (hw : Cur w) : W Try.prog 19 V21 c21_12 Q e w = (opsW (nx Try.prog) mv gdP 19 V21 o21_4 (fun e w => W Try.prog 19 V21 c21_13 Q e w) o21_4.toList [] e e w) := by rw [(by kernel_rfl : c21_12 = .seq (.region 4 o21_4 false) c21_13), W_seq_reg]
theorem c21_11_s (hw : Cur w) : W Try.prog 19 V21 c21_11 Q e w = (opsW (nx Try.prog) mv gdP 19 V21 o21_3 (fun e w => W Try.prog 19 V21 c21_12 Q e w) o21_3.toList [] e e w) := by rw [(by kernel_rfl : c21_11 = .seq (.region 3 o21_3 false) c21_12), W_seq_reg]
theorem c21_10_s (hw : Cur w) : W Try.prog 19 V21 c21_10 Q e w = (W Try.prog 19 V21 c21_11 (blockQ 1 Q) e w) := by rw [(by kernel_rfl : c21_10 = .block 1 c21_11), W_block]
theorem c21_8_s (hw : Cur w) : W Try.prog 19 V21 c21_8 Q e w = (W Try.prog 19 V21 c21_10 (seqQ (fun e w => W Try.prog 19 V21 c21_9 Q e w) Q) e w) := by rw [(by kernel_rfl : c21_8 = .seq c21_10 c21_9), W_seq]
theorem c21_15_v : opV V21 (.tmp 9) = true := by kernel_rfl
theorem c21_15_s (hw : Cur w) : W Try.prog 19 V21 c21_15 Q e w = (condP (ev e (.tmp 9)) (Q .normal e w) (Q (.exit 0) e w)) := by rw [(by kernel_rfl : c21_15 = .cond (.tmp 9) Code.skip (Code.exit 0)), W_cond, c21_15_v, cond_true]; simp only [W_ret, W_skip, W_exit, W_label]
theorem c21_7_s (hw : Cur w) : W Try.prog 19 V21 c21_7 Q e w = (W Try.prog 19 V21 c21_15 (seqQ (fun e w => W Try.prog 19 V21 c21_8 Q e w) Q) e w) := by rw [(by kernel_rfl : c21_7 = .seq c21_15 c21_8), W_seq]
theorem c21_6_s (hw : Cur w) : W Try.prog 19 V21 c21_6 Q e w = (opsW (nx Try.prog) mv gdP 19 V21 o21_2 (fun e w => W Try.prog 19 V21 c21_7 Q e w) o21_2.toList [] e e w) := by rw [(by kernel_rfl : c21_6 = .seq (.region 2 o21_2 false) c21_7), W_seq_reg]
theorem c21_5_s (hw : Cur w) : W Try.prog 19 V21 c21_5 Q e w = (LoopP (fun e w k => W Try.prog 19 V21 c21_6 (seqQ k Q) e w) e w) := by rw [(by kernel_rfl : c21_5 = .loop c21_6), W_loop]
theorem c21_4_s (hw : Cur w) : W Try.prog 19 V21 c21_4 Q e w = (W Try.prog 19 V21 c21_5 (blockQ 0 Q) e w) := by rw [(by kernel_rfl : c21_4 = .block 0 c21_5), W_block]
theorem c21_3_s (hw : Cur w) : W Try.prog 19 V21 c21_3 Q e w = (opsW (nx Try.prog) mv gdP 19 V21 o21_1 (fun e w => W Try.prog 19 V21 c21_4 Q e w) o21_1.toList [] e e w) := by rw [(by kernel_rfl : c21_3 = .seq (.region 1 o21_1 false) c21_4), W_seq_reg]
theorem c21_1_s (hw : Cur w) : W Try.prog 19 V21 c21_1 Q e w = (W Try.prog 19 V21 c21_3 (seqQ (fun e w => W Try.prog 19 V21 c21_2 Q e w) Q) e w) := by rw [(by kernel_rfl : c21_1 = .seq c21_3 c21_2), W_seq]
theorem c21_s (hw : Cur w) : W Try.prog 19 V21 c21 Q e w = (opsW (nx Try.prog) mv gdP 19 V21 o21_0 (fun e w => W Try.prog 19 V21 c21_1 Q e w) o21_0.toList [] e e w) := by rw [(by kernel_rfl : c21 = .seq (.region 0 o21_0 false) c21_1), W_seq_reg]
theorem call21 {a0 a1 : Value} {w : World} {R : Value → World → Prop} (h : W Try.prog 19 V21 c21 (retQ Try.prog [.tmp 4] R) (argE [a0, a1]) w) : CallsN Try.prog 21 [a0, a1] w R :=
  callsN_of_W (c := c21) (rs := [.tmp 4]) V21 Try.ntmps21 (by rw [Try.results21]) mixed Try.func21 (by kernel_rfl) (by kernel_rfl) (by kernel_rfl) (by kernel_rfl) (by simp) h
noncomputable def hk21 := And.intro (@o21_0_eq) <| And.intro (@o21_7_eq) <| And.intro (@c21_2_s) <| And.intro (@o21_1_eq) <| And.intro (@o21_2_eq) <| And.intro (@o21_6_eq) <| And.intro (@c21_9_s) <| And.intro (@o21_3_eq) <| And.intro (@o21_4_eq) <| And.intro (@o21_5_eq) <| And.intro (@c21_14_s) <| And.intro (@c21_13_s) <| And.intro (@c21_12_s) <| And.intro (@c21_11_s) <| And.intro (@c21_10_s) <| And.intro (@c21_8_s) <| And.intro (@c21_15_s) <| And.intro (@c21_7_s) <| And.intro (@c21_6_s) <| And.intro (@c21_5_s) <| And.intro (@c21_4_s) <| And.intro (@c21_3_s) <| And.intro (@c21_1_s) <| @c21_s
-- K21: ↓hk21
/-! ### slices.Contains[[]string,string] -/
def V23 : Nat → Bool := fun i => [0, 1, 4].elem i
noncomputable def c23 : Code := (Try.f23.body.getD .skip)
noncomputable def o23_0 : Array Oper := rO (cL c23)
noncomputable def c23_1 : Code := (cR c23)
noncomputable def o23_1 : Array Oper := rO (cL c23_1)
theorem o23_0_eq : opsW N M G 9 V23 o23_0 k o23_0.toList [] e e w =
    (M (Value.bool false) fun t4 =>
    k (Env.p e 4 t4) w) := nr (by kernel_rfl)
theorem o23_1_eq : opsW N M G 9 V23 o23_1 k o23_1.toList [] e e w =
    (M (e 0) fun t5 =>
    M (e 1) fun t6 =>
    N (xcall (Value.func (Fn.func 32) #[] #[]) [t5, t6]) w fun t7 w =>
    N (xv (xbin BinOp.geq 3 (Operand.tmp 7) (Operand.const (Value.int IntKind.i64 0)) t7 (Value.int IntKind.i64 0))) w fun t8 w =>
    M t8 fun t4 =>
    k (Env.p e 4 t4) w) := nr (by kernel_rfl)
theorem c23_1_s (hw : Cur w) : W Try.prog 9 V23 c23_1 Q e w = (opsW (nx Try.prog) mv gdP 9 V23 o23_1 (fun e w => Q .ret e w) o23_1.toList [] e e w) := by rw [(by kernel_rfl : c23_1 = .seq (.region 1 o23_1 false) Code.ret), W_seq_reg]; simp only [W_ret, W_skip, W_exit, W_label]
theorem c23_s (hw : Cur w) : W Try.prog 9 V23 c23 Q e w = (opsW (nx Try.prog) mv gdP 9 V23 o23_0 (fun e w => W Try.prog 9 V23 c23_1 Q e w) o23_0.toList [] e e w) := by rw [(by kernel_rfl : c23 = .seq (.region 0 o23_0 false) c23_1), W_seq_reg]
theorem call23 {a0 a1 : Value} {w : World} {R : Value → World → Prop} (h : W Try.prog 9 V23 c23 (retQ Try.prog [.tmp 4] R) (argE [a0, a1]) w) : CallsN Try.prog 23 [a0, a1] w R :=
  callsN_of_W (c := c23) (rs := [.tmp 4]) V23 Try.ntmps23 (by rw [Try.results23]) mixed Try.func23 (by kernel_rfl) (by kernel_rfl) (by kernel_rfl) (by kernel_rfl) (by simp) h
noncomputable def hk23 := And.intro (@o23_0_eq) <| And.intro (@o23_1_eq) <| And.intro (@c23_1_s) <| @c23_s
-- K23: ↓hk23
/-! ### slices.Index[[]string,string] -/
def V32 : Nat → Bool := fun i => [0, 1, 4, 5, 7, 8, 9, 16].elem i
noncomputable def c32 : Code := (Try.f32.body.getD .skip)
noncomputable def o32_0 : Array Oper := rO (cL c32)
noncomputable def c32_1 : Code := (cR c32)
noncomputable def c32_2 : Code := (cR c32_1)
noncomputable def o32_7 : Array Oper := rO (cL c32_2)
noncomputable def c32_3 : Code := (cL c32_1)
noncomputable def o32_1 : Array Oper := rO (cL c32_3)
noncomputable def c32_4 : Code := (cR c32_3)
noncomputable def c32_5 : Code := (cL c32_4)
noncomputable def c32_6 : Code := (cL c32_5)
noncomputable def o32_2 : Array Oper := rO (cL c32_6)
noncomputable def c32_7 : Code := (cR c32_6)
noncomputable def c32_8 : Code := (cR c32_7)
noncomputable def c32_9 : Code := (cR c32_8)
noncomputable def o32_6 : Array Oper := rO c32_9
noncomputable def c32_10 : Code := (cL c32_8)
noncomputable def c32_11 : Code := (cL c32_10)
noncomputable def o32_3 : Array Oper := rO (cL c32_11)
noncomputable def c32_12 : Code := (cR c32_11)
noncomputable def o32_4 : Array Oper := rO (cL c32_12)
noncomputable def c32_13 : Code := (cR c32_12)
noncomputable def c32_14 : Code := (cL c32_13)
noncomputable def o32_5 : Array Oper := rO (cL c32_14)
noncomputable def c32_15 : Code := (cL c32_7)
theorem o32_0_eq : opsW N M G 19 V32 o32_0 k o32_0.toList [] e e w =
    (M (Value.int IntKind.i64 0) fun t4 =>
    k (Env.p e 4 t4) w) := nr (by kernel_rfl)
theorem o32_7_eq : opsW N M G 19 V32 o32_7 k o32_7.toList [] e e w =
    (M (Value.int IntKind.i64 (-1)) fun t4 =>
    k (Env.p e 4 t4) w) := nr (by kernel_rfl)
theorem c32_2_s (hw : Cur w) : W Try.prog 19 V32 c32_2 Q e w = (opsW (nx Try.prog) mv gdP 19 V32 o32_7 (fun e w => Q .ret e w) o32_7.toList [] e e w) := by rw [(by kernel_rfl : c32_2 = .seq (.region 7 o32_7 false) Code.ret), W_seq_reg]; simp only [W_ret, W_skip, W_exit, W_label]
theorem o32_1_eq : opsW N M G 19 V32 o32_1 k o32_1.toList [] e e w =
    (M (e 0) fun t6 =>
    N (builtin Builtin.len #[30] 3 ([false]).toArray ([t6]).toArray) w fun t7 w =>
    M (Value.int IntKind.i64 0) fun t8 =>
    k (Env.p (Env.p e 7 t7) 8 t8) w) := nr (by kernel_rfl)
theorem o32_2_eq : opsW N M G 19 V32 o32_2 k o32_2.toList [] e e w =
    (N (xv (xbin BinOp.lss 3 (Operand.tmp 8) (Operand.tmp 7) (e 8) (e 7))) w fun t9 w =>
    k (Env.p e 9 t9) w) := nr (by kernel_rfl)
theorem o32_6_eq : opsW N M G 19 V32 o32_6 k o32_6.toList [] e e w =
    (N (xv (xbin BinOp.add 3 (Operand.tmp 8) (Operand.const (Value.int IntKind.i64 1)) (e 8) (Value.int IntKind.i64 1))) w fun t18 w =>
    M t18 fun t8 =>
    k (Env.p e 8 t8) w) := nr (by kernel_rfl)
theorem c32_9_s (hw : Cur w) : W Try.prog 19 V32 c32_9 Q e w = (opsW (nx Try.prog) mv gdP 19 V32 o32_6 (fun e w => Q .normal e w) o32_6.toList [] e e w) := by rw [(by kernel_rfl : c32_9 = (.region 6 o32_6 false)), W_reg]
theorem o32_3_eq : opsW N M G 19 V32 o32_3 k o32_3.toList [] e e w =
    (M (e 8) fun t10 =>
    M t10 fun t5 =>
    k (Env.p e 5 t5) w) := nr (by kernel_rfl)
theorem o32_4_eq : opsW N M G 19 V32 o32_4 k o32_4.toList [] e e w =
    (M (e 1) fun t11 =>
    M (e 0) fun t12 =>
    M (e 5) fun t13 =>
    N (xv (Instr.indexAt 30 t12 t13)) w fun t14 w =>
    N (xv (Instr.loadAt 9 t14)) w fun t15 w =>
    N (xv (xbin BinOp.eql 9 (Operand.tmp 11) (Operand.tmp 15) t11 t15)) w fun t16 w =>
    k (Env.p e 16 t16) w) := nr (by kernel_rfl)
theorem o32_5_eq : opsW N M G 19 V32 o32_5 k o32_5.toList [] e e w =
    (M (e 5) fun t17 =>
    M t17 fun t4 =>
    k (Env.p e 4 t4) w) := nr (by kernel_rfl)
theorem c32_14_s (hw : Cur w) : W Try.prog 19 V32 c32_14 Q e w = (opsW (nx Try.prog) mv gdP 19 V32 o32_5 (fun e w => Q .ret e w) o32_5.toList [] e e w) := by rw [(by kernel_rfl : c32_14 = .seq (.region 5 o32_5 false) Code.ret), W_seq_reg]; simp only [W_ret, W_skip, W_exit, W_label]
theorem c32_13_v : opV V32 (.tmp 16) = true := by kernel_rfl
theorem c32_13_s (hw : Cur w) : W Try.prog 19 V32 c32_13 Q e w = (condP (ev e (.tmp 16)) (W Try.prog 19 V32 c32_14 Q e w) (Q .normal e w)) := by rw [(by kernel_rfl : c32_13 = .cond (.tmp 16) c32_14 Code.skip), W_cond, c32_13_v, cond_true]; simp only [W_ret, W_skip, W_exit, W_label]
theorem c32_12_s (hw : Cur w) : W Try.prog 19 V32 c32_12 Q e w = (opsW (nx Try.prog) mv gdP 19 V32 o32_4 (fun e w => W Try.prog 19 V32 c32_13 Q e w) o32_4.toList [] e e w) := by rw [(by kernel_rfl : c32_12 = .seq (.region 4 o32_4 false) c32_13), W_seq_reg]
theorem c32_11_s (hw : Cur w) : W Try.prog 19 V32 c32_11 Q e w = (opsW (nx Try.prog) mv gdP 19 V32 o32_3 (fun e w => W Try.prog 19 V32 c32_12 Q e w) o32_3.toList [] e e w) := by rw [(by kernel_rfl : c32_11 = .seq (.region 3 o32_3 false) c32_12), W_seq_reg]
theorem c32_10_s (hw : Cur w) : W Try.prog 19 V32 c32_10 Q e w = (W Try.prog 19 V32 c32_11 (blockQ 1 Q) e w) := by rw [(by kernel_rfl : c32_10 = .block 1 c32_11), W_block]
theorem c32_8_s (hw : Cur w) : W Try.prog 19 V32 c32_8 Q e w = (W Try.prog 19 V32 c32_10 (seqQ (fun e w => W Try.prog 19 V32 c32_9 Q e w) Q) e w) := by rw [(by kernel_rfl : c32_8 = .seq c32_10 c32_9), W_seq]
theorem c32_15_v : opV V32 (.tmp 9) = true := by kernel_rfl
theorem c32_15_s (hw : Cur w) : W Try.prog 19 V32 c32_15 Q e w = (condP (ev e (.tmp 9)) (Q .normal e w) (Q (.exit 0) e w)) := by rw [(by kernel_rfl : c32_15 = .cond (.tmp 9) Code.skip (Code.exit 0)), W_cond, c32_15_v, cond_true]; simp only [W_ret, W_skip, W_exit, W_label]
theorem c32_7_s (hw : Cur w) : W Try.prog 19 V32 c32_7 Q e w = (W Try.prog 19 V32 c32_15 (seqQ (fun e w => W Try.prog 19 V32 c32_8 Q e w) Q) e w) := by rw [(by kernel_rfl : c32_7 = .seq c32_15 c32_8), W_seq]
theorem c32_6_s (hw : Cur w) : W Try.prog 19 V32 c32_6 Q e w = (opsW (nx Try.prog) mv gdP 19 V32 o32_2 (fun e w => W Try.prog 19 V32 c32_7 Q e w) o32_2.toList [] e e w) := by rw [(by kernel_rfl : c32_6 = .seq (.region 2 o32_2 false) c32_7), W_seq_reg]
theorem c32_5_s (hw : Cur w) : W Try.prog 19 V32 c32_5 Q e w = (LoopP (fun e w k => W Try.prog 19 V32 c32_6 (seqQ k Q) e w) e w) := by rw [(by kernel_rfl : c32_5 = .loop c32_6), W_loop]
theorem c32_4_s (hw : Cur w) : W Try.prog 19 V32 c32_4 Q e w = (W Try.prog 19 V32 c32_5 (blockQ 0 Q) e w) := by rw [(by kernel_rfl : c32_4 = .block 0 c32_5), W_block]
theorem c32_3_s (hw : Cur w) : W Try.prog 19 V32 c32_3 Q e w = (opsW (nx Try.prog) mv gdP 19 V32 o32_1 (fun e w => W Try.prog 19 V32 c32_4 Q e w) o32_1.toList [] e e w) := by rw [(by kernel_rfl : c32_3 = .seq (.region 1 o32_1 false) c32_4), W_seq_reg]
theorem c32_1_s (hw : Cur w) : W Try.prog 19 V32 c32_1 Q e w = (W Try.prog 19 V32 c32_3 (seqQ (fun e w => W Try.prog 19 V32 c32_2 Q e w) Q) e w) := by rw [(by kernel_rfl : c32_1 = .seq c32_3 c32_2), W_seq]
theorem c32_s (hw : Cur w) : W Try.prog 19 V32 c32 Q e w = (opsW (nx Try.prog) mv gdP 19 V32 o32_0 (fun e w => W Try.prog 19 V32 c32_1 Q e w) o32_0.toList [] e e w) := by rw [(by kernel_rfl : c32 = .seq (.region 0 o32_0 false) c32_1), W_seq_reg]
theorem call32 {a0 a1 : Value} {w : World} {R : Value → World → Prop} (h : W Try.prog 19 V32 c32 (retQ Try.prog [.tmp 4] R) (argE [a0, a1]) w) : CallsN Try.prog 32 [a0, a1] w R :=
  callsN_of_W (c := c32) (rs := [.tmp 4]) V32 Try.ntmps32 (by rw [Try.results32]) mixed Try.func32 (by kernel_rfl) (by kernel_rfl) (by kernel_rfl) (by kernel_rfl) (by simp) h
noncomputable def hk32 := And.intro (@o32_0_eq) <| And.intro (@o32_7_eq) <| And.intro (@c32_2_s) <| And.intro (@o32_1_eq) <| And.intro (@o32_2_eq) <| And.intro (@o32_6_eq) <| And.intro (@c32_9_s) <| And.intro (@o32_3_eq) <| And.intro (@o32_4_eq) <| And.intro (@o32_5_eq) <| And.intro (@c32_14_s) <| And.intro (@c32_13_s) <| And.intro (@c32_12_s) <| And.intro (@c32_11_s) <| And.intro (@c32_10_s) <| And.intro (@c32_8_s) <| And.intro (@c32_15_s) <| And.intro (@c32_7_s) <| And.intro (@c32_6_s) <| And.intro (@c32_5_s) <| And.intro (@c32_4_s) <| And.intro (@c32_3_s) <| And.intro (@c32_1_s) <| @c32_s
-- K32: ↓hk32
/-! ### slices.Sorted[string] -/
def V29 : Nat → Bool := fun i => [0, 2, 3].elem i
noncomputable def c29 : Code := (Try.f29.body.getD .skip)
noncomputable def o29_0 : Array Oper := rO (cL c29)
noncomputable def c29_1 : Code := (cR c29)
noncomputable def o29_1 : Array Oper := rO (cL c29_1)
noncomputable def c29_2 : Code := (cR c29_1)
noncomputable def o29_2 : Array Oper := rO (cL c29_2)
noncomputable def c29_3 : Code := (cR c29_2)
noncomputable def o29_3 : Array Oper := rO (cL c29_3)
theorem o29_0_eq : opsW N M G 9 V29 o29_0 k o29_0.toList [] e e w =
    (M (Value.slice none 0 0) fun t2 =>
    k (Env.p e 2 t2) w) := nr (by kernel_rfl)
theorem o29_1_eq : opsW N M G 9 V29 o29_1 k o29_1.toList [] e e w =
    (M (e 0) fun t4 =>
    N (xcall (Value.func (Fn.func 34) #[] #[]) [t4]) w fun t5 w =>
    M t5 fun t3 =>
    k (Env.p e 3 t3) w) := nr (by kernel_rfl)
theorem o29_2_eq : opsW N M G 9 V29 o29_2 k o29_2.toList [] e e w =
    (M (e 3) fun t6 =>
    N (xcall (Value.func (Fn.func 35) #[] #[]) [t6]) w fun t7 w =>
    k e w) := nr (by kernel_rfl)
theorem o29_3_eq : opsW N M G 9 V29 o29_3 k o29_3.toList [] e e w =
    (M (e 3) fun t8 =>
    M t8 fun t2 =>
    k (Env.p e 2 t2) w) := nr (by kernel_rfl)
theorem c29_3_s (hw : Cur w) : W Try.prog 9 V29 c29_3 Q e w = (opsW (nx Try.prog) mv gdP 9 V29 o29_3 (fun e w => Q .ret e w) o29_3.toList [] e e w) := by rw [(by kernel_rfl : c29_3 = .seq (.region 3 o29_3 false) Code.ret), W_seq_reg]; simp only [W_ret, W_skip, W_exit, W_label]
theorem c29_2_s (hw : Cur w) : W Try.prog 9 V29 c29_2 Q e w = (opsW (nx Try.prog) mv gdP 9 V29 o29_2 (fun e w => W Try.prog 9 V29 c29_3 Q e w) o29_2.toList [] e e w) := by rw [(by kernel_rfl : c29_2 = .seq (.region 2 o29_2 false) c29_3), W_seq_reg]
theorem c29_1_s (hw : Cur w) : W Try.prog 9 V29 c29_1 Q e w = (opsW (nx Try.prog) mv gdP 9 V29 o29_1 (fun e w => W Try.prog 9 V29 c29_2 Q e w) o29_1.toList [] e e w) := by rw [(by kernel_rfl : c29_1 = .seq (.region 1 o29_1 false) c29_2), W_seq_reg]
theorem c29_s (hw : Cur w) : W Try.prog 9 V29 c29 Q e w = (opsW (nx Try.prog) mv gdP 9 V29 o29_0 (fun e w => W Try.prog 9 V29 c29_1 Q e w) o29_0.toList [] e e w) := by rw [(by kernel_rfl : c29 = .seq (.region 0 o29_0 false) c29_1), W_seq_reg]
theorem call29 {a0 : Value} {w : World} {R : Value → World → Prop} (h : W Try.prog 9 V29 c29 (retQ Try.prog [.tmp 2] R) (argE [a0]) w) : CallsN Try.prog 29 [a0] w R :=
  callsN_of_W (c := c29) (rs := [.tmp 2]) V29 Try.ntmps29 (by rw [Try.results29]) mixed Try.func29 (by kernel_rfl) (by kernel_rfl) (by kernel_rfl) (by kernel_rfl) (by simp) h
noncomputable def hk29 := And.intro (@o29_0_eq) <| And.intro (@o29_1_eq) <| And.intro (@o29_2_eq) <| And.intro (@o29_3_eq) <| And.intro (@c29_3_s) <| And.intro (@c29_2_s) <| And.intro (@c29_1_s) <| @c29_s
-- K29: ↓hk29
/-! ### slices.Values[[]string,string] -/
def V30 : Nat → Bool := fun i => [0, 1, 2].elem i
noncomputable def c30 : Code := (Try.f30.body.getD .skip)
noncomputable def o30_0 : Array Oper := rO (cL c30)
noncomputable def c30_1 : Code := (cR c30)
noncomputable def o30_1 : Array Oper := rO (cL c30_1)
theorem o30_0_eq : opsW N M G 4 V30 o30_0 k o30_0.toList [] e e w =
    (N (xv (Instr.box 30 (e 0))) w fun t1 w =>
    M Value.nilFunc fun t2 =>
    k (Env.p (Env.p e 1 t1) 2 t2) w) := nr (by kernel_rfl)
theorem o30_1_eq : opsW N M G 4 V30 o30_1 k o30_1.toList [] e e w =
    (N (xv (Instr.makeFunc (Fn.func 36) ([]).toArray ([(e 1)]).toArray)) w fun t3 w =>
    M t3 fun t2 =>
    k (Env.p e 2 t2) w) := nr (by kernel_rfl)
theorem c30_1_s (hw : Cur w) : W Try.prog 4 V30 c30_1 Q e w = (opsW (nx Try.prog) mv gdP 4 V30 o30_1 (fun e w => Q .ret e w) o30_1.toList [] e e w) := by rw [(by kernel_rfl : c30_1 = .seq (.region 1 o30_1 false) Code.ret), W_seq_reg]; simp only [W_ret, W_skip, W_exit, W_label]
theorem c30_s (hw : Cur w) : W Try.prog 4 V30 c30 Q e w = (opsW (nx Try.prog) mv gdP 4 V30 o30_0 (fun e w => W Try.prog 4 V30 c30_1 Q e w) o30_0.toList [] e e w) := by rw [(by kernel_rfl : c30 = .seq (.region 0 o30_0 false) c30_1), W_seq_reg]
theorem call30 {a0 : Value} {w : World} {R : Value → World → Prop} (h : W Try.prog 4 V30 c30 (retQ Try.prog [.tmp 2] R) (argE [a0]) w) : CallsN Try.prog 30 [a0] w R :=
  callsN_of_W (c := c30) (rs := [.tmp 2]) V30 Try.ntmps30 (by rw [Try.results30]) mixed Try.func30 (by kernel_rfl) (by kernel_rfl) (by kernel_rfl) (by kernel_rfl) (by simp) h
noncomputable def hk30 := And.intro (@o30_0_eq) <| And.intro (@o30_1_eq) <| And.intro (@c30_1_s) <| @c30_s
-- K30: ↓hk30
/-! ### slices.Collect[string] -/
def V34 : Nat → Bool := fun i => [0, 2].elem i
noncomputable def c34 : Code := (Try.f34.body.getD .skip)
noncomputable def o34_0 : Array Oper := rO (cL c34)
noncomputable def c34_1 : Code := (cR c34)
noncomputable def o34_1 : Array Oper := rO (cL c34_1)
theorem o34_0_eq : opsW N M G 5 V34 o34_0 k o34_0.toList [] e e w =
    (M (Value.slice none 0 0) fun t2 =>
    k (Env.p e 2 t2) w) := nr (by kernel_rfl)
theorem o34_1_eq : opsW N M G 5 V34 o34_1 k o34_1.toList [] e e w =
    (M (e 0) fun t3 =>
    N (xcall (Value.func (Fn.func 37) #[] #[]) [(Value.slice none 0 0), t3]) w fun t4 w =>
    M t4 fun t2 =>
    k (Env.p e 2 t2) w) := nr (by kernel_rfl)
theorem c34_1_s (hw : Cur w) : W Try.prog 5 V34 c34_1 Q e w = (opsW (nx Try.prog) mv gdP 5 V34 o34_1 (fun e w => Q .ret e w) o34_1.toList [] e e w) := by rw [(by kernel_rfl : c34_1 = .seq (.region 1 o34_1 false) Code.ret), W_seq_reg]; simp only [W_ret, W_skip, W_exit, W_label]
theorem c34_s (hw : Cur w) : W Try.prog 5 V34 c34 Q e w = (opsW (nx Try.prog) mv gdP 5 V34 o34_0 (fun e w => W Try.prog 5 V34 c34_1 Q e w) o34_0.toList [] e e w) := by rw [(by kernel_rfl : c34 = .seq (.region 0 o34_0 false) c34_1), W_seq_reg]
theorem call34 {a0 : Value} {w : World} {R : Value → World → Prop} (h : W Try.prog 5 V34 c34 (retQ Try.prog [.tmp 2] R) (argE [a0]) w) : CallsN Try.prog 34 [a0] w R :=
  callsN_of_W (c := c34) (rs := [.tmp 2]) V34 Try.ntmps34 (by rw [Try.results34]) mixed Try.func34 (by kernel_rfl) (by kernel_rfl) (by kernel_rfl) (by kernel_rfl) (by simp) h
noncomputable def hk34 := And.intro (@o34_0_eq) <| And.intro (@o34_1_eq) <| And.intro (@c34_1_s) <| @c34_s
-- K34: ↓hk34
end
end Go.Proofs.Ytenokheiindfkab
