/- The equations of the code of some functions, written by the printer gen.py: each is checked by the kernel. -/
import Derived.Test.YtldmkhakjnglmaaQ0
import Derived.Test.YtldmkhakjnglmaaCE
set_option linter.unusedVariables false
set_option linter.unusedSimpArgs false
set_option maxRecDepth 100000
namespace Go.Proofs.Ytldmkhakjnglmaa
open Go.VW
noncomputable section
set_option linter.defProp false
variable {N : Sem Next → World → (Value → World → Prop) → Prop} {T : Sem Next → (Value → Prop) → Prop} {M : Value → (Value → Prop) → Prop} {G : Bool → ((Value → World → Prop) → Prop) → (Value → World → Prop) → World → Prop}
  {H : Bool → ((Value → Prop) → Prop) → (Value → Prop) → Prop} {S : World → Prop} {k : Env → World → Prop} {Q : Exit → Env → World → Prop} {e : Env} {w : World}
  {T2 : Nat → Sem Next → (Value → Prop) → Prop} {S2 : Nat → World → Prop} {T3 : (World → Prop) → Sem Next → (Value → Prop) → Prop}
/-! ### vouch/table.New -/
def V8 : Nat → Bool := fun i => [0].elem i
noncomputable def c8 : Code := (Try.f8.body.getD .skip)
noncomputable def o8_0 : Array Oper := rO (cL c8)
noncomputable def c8_1 : Code := (cR c8)
noncomputable def o8_1 : Array Oper := rO (cL c8_1)
theorem o8_0_eq : opsW N M G 3 V8 o8_0 k o8_0.toList [] e e w =
    (M (Value.pointer none) fun t0 =>
    k (Env.p e 0 t0) w) := nr (by kernel_rfl)
theorem o8_1_eq : opsW N M G 3 V8 o8_1 k o8_1.toList [] e e w =
    (N (xv (Instr.build 56 ([]).toArray)) w fun t1 w =>
    N (xv (Instr.box 56 t1)) w fun t2 w =>
    M t2 fun t0 =>
    k (Env.p e 0 t0) w) := nr (by kernel_rfl)
theorem c8_1_s (hw : Cur w) : W3 Try.prog 3 V8 c8_1 Q e w = (opsW (nx Try.prog) mv gdP 3 V8 o8_1 (fun e w => Q .ret e w) o8_1.toList [] e e w) := by rw [(by kernel_rfl : c8_1 = .seq (.region 1 o8_1 false) Code.ret), W3_seq_reg]; simp only [W3_ret, W3_skip, W3_exit, W3_label]
theorem c8_s (hw : Cur w) : W3 Try.prog 3 V8 c8 Q e w = (opsW (nx Try.prog) mv gdP 3 V8 o8_0 (fun e w => W3 Try.prog 3 V8 c8_1 Q e w) o8_0.toList [] e e w) := by rw [(by kernel_rfl : c8 = .seq (.region 0 o8_0 false) c8_1), W3_seq_reg]
theorem call8 {w : World} {R : Value → World → Prop} (h : W3 Try.prog 3 V8 c8 (retQ Try.prog [.tmp 0] R) (argE []) w) : CallsN Try.prog 8 [] w R :=
  callsN_of_W3 (c := c8) (rs := [.tmp 0]) V8 Try.ntmps8 (by rw [Try.results8]) mixed Try.func8 (by kernel_rfl) (by kernel_rfl) (by kernel_rfl) (by kernel_rfl) (by simp) h
noncomputable def hk8 := And.intro (@o8_0_eq) <| And.intro (@o8_1_eq) <| And.intro (@c8_1_s) <| @c8_s
-- K8: ↓hk8
/-! ### (*vouch/table.Table) . Len -/
def V10 : Nat → Bool := fun i => [0, 2, 4].elem i
noncomputable def c10 : Code := (Try.f10.body.getD .skip)
noncomputable def o10_0 : Array Oper := rO (cL c10)
noncomputable def c10_1 : Code := (cR c10)
noncomputable def c10_2 : Code := (cR c10_1)
noncomputable def o10_3 : Array Oper := rO (cL c10_2)
noncomputable def c10_3 : Code := (cL c10_1)
noncomputable def o10_1 : Array Oper := rO (cL c10_3)
noncomputable def c10_4 : Code := (cR c10_3)
noncomputable def c10_5 : Code := (cL c10_4)
noncomputable def o10_2 : Array Oper := rO (cL c10_5)
theorem o10_0_eq : opsW N M G 9 V10 o10_0 k o10_0.toList [] e e w =
    (M (Value.int IntKind.i64 0) fun t2 =>
    k (Env.p e 2 t2) w) := nr (by kernel_rfl)
theorem o10_3_eq : opsW N M G 9 V10 o10_3 k o10_3.toList [] e e w =
    (M (e 0) fun t5 =>
    N (xnil t5) w fun t6 w =>
    N (xv (Instr.fieldAt 56 t6 1)) w fun t7 w =>
    N (xv (Instr.loadAt 3 t7)) w fun t8 w =>
    M t8 fun t2 =>
    k (Env.p e 2 t2) w) := nr (by kernel_rfl)
theorem c10_2_s (hw : Cur w) : W3 Try.prog 9 V10 c10_2 Q e w = (opsW (nx Try.prog) mv gdP 9 V10 o10_3 (fun e w => Q .ret e w) o10_3.toList [] e e w) := by rw [(by kernel_rfl : c10_2 = .seq (.region 3 o10_3 false) Code.ret), W3_seq_reg]; simp only [W3_ret, W3_skip, W3_exit, W3_label]
theorem o10_1_eq : opsW N M G 9 V10 o10_1 k o10_1.toList [] e e w =
    (M (e 0) fun t3 =>
    N (xv (xbin BinOp.eql 24 (Operand.tmp 3) (Operand.const (Value.pointer none)) t3 (Value.pointer none))) w fun t4 w =>
    k (Env.p e 4 t4) w) := nr (by kernel_rfl)
theorem o10_2_eq : opsW N M G 9 V10 o10_2 k o10_2.toList [] e e w =
    (M (Value.int IntKind.i64 0) fun t2 =>
    k (Env.p e 2 t2) w) := nr (by kernel_rfl)
theorem c10_5_s (hw : Cur w) : W3 Try.prog 9 V10 c10_5 Q e w = (opsW (nx Try.prog) mv gdP 9 V10 o10_2 (fun e w => Q .ret e w) o10_2.toList [] e e w) := by rw [(by kernel_rfl : c10_5 = .seq (.region 2 o10_2 false) Code.ret), W3_seq_reg]; simp only [W3_ret, W3_skip, W3_exit, W3_label]
theorem c10_4_v : opV V10 (.tmp 4) = true := by kernel_rfl
theorem c10_4_s (hw : Cur w) : W3 Try.prog 9 V10 c10_4 Q e w = (condP (ev e (.tmp 4)) (W3 Try.prog 9 V10 c10_5 Q e w) (Q .normal e w)) := by rw [(by kernel_rfl : c10_4 = .cond (.tmp 4) c10_5 Code.skip), W3_cond, c10_4_v, cond_true]; simp only [W3_ret, W3_skip, W3_exit, W3_label]
theorem c10_3_s (hw : Cur w) : W3 Try.prog 9 V10 c10_3 Q e w = (opsW (nx Try.prog) mv gdP 9 V10 o10_1 (fun e w => W3 Try.prog 9 V10 c10_4 Q e w) o10_1.toList [] e e w) := by rw [(by kernel_rfl : c10_3 = .seq (.region 1 o10_1 false) c10_4), W3_seq_reg]
theorem c10_1_s (hw : Cur w) : W3 Try.prog 9 V10 c10_1 Q e w = (W3 Try.prog 9 V10 c10_3 (seqQ (fun e w => W3 Try.prog 9 V10 c10_2 Q e w) Q) e w) := by rw [(by kernel_rfl : c10_1 = .seq c10_3 c10_2), W3_seq]
theorem c10_s (hw : Cur w) : W3 Try.prog 9 V10 c10 Q e w = (opsW (nx Try.prog) mv gdP 9 V10 o10_0 (fun e w => W3 Try.prog 9 V10 c10_1 Q e w) o10_0.toList [] e e w) := by rw [(by kernel_rfl : c10 = .seq (.region 0 o10_0 false) c10_1), W3_seq_reg]
theorem call10 {a0 : Value} {w : World} {R : Value → World → Prop} (h : W3 Try.prog 9 V10 c10 (retQ Try.prog [.tmp 2] R) (argE [a0]) w) : CallsN Try.prog 10 [a0] w R :=
  callsN_of_W3 (c := c10) (rs := [.tmp 2]) V10 Try.ntmps10 (by rw [Try.results10]) mixed Try.func10 (by kernel_rfl) (by kernel_rfl) (by kernel_rfl) (by kernel_rfl) (by simp) h
noncomputable def hk10 := And.intro (@o10_0_eq) <| And.intro (@o10_3_eq) <| And.intro (@c10_2_s) <| And.intro (@o10_1_eq) <| And.intro (@o10_2_eq) <| And.intro (@c10_5_s) <| And.intro (@c10_4_s) <| And.intro (@c10_3_s) <| And.intro (@c10_1_s) <| @c10_s
-- K10: ↓hk10
/-! ### (*vouch/table.Table) . Bytes -/
def V11 : Nat → Bool := fun i => [0, 2, 4].elem i
noncomputable def c11 : Code := (Try.f11.body.getD .skip)
noncomputable def o11_0 : Array Oper := rO (cL c11)
noncomputable def c11_1 : Code := (cR c11)
noncomputable def c11_2 : Code := (cR c11_1)
noncomputable def o11_3 : Array Oper := rO (cL c11_2)
noncomputable def c11_3 : Code := (cL c11_1)
noncomputable def o11_1 : Array Oper := rO (cL c11_3)
noncomputable def c11_4 : Code := (cR c11_3)
noncomputable def c11_5 : Code := (cL c11_4)
noncomputable def o11_2 : Array Oper := rO (cL c11_5)
theorem o11_0_eq : opsW N M G 9 V11 o11_0 k o11_0.toList [] e e w =
    (M (Value.int IntKind.i64 0) fun t2 =>
    k (Env.p e 2 t2) w) := nr (by kernel_rfl)
theorem o11_3_eq : opsW N M G 9 V11 o11_3 k o11_3.toList [] e e w =
    (M (e 0) fun t5 =>
    N (xnil t5) w fun t6 w =>
    N (xv (Instr.fieldAt 56 t6 2)) w fun t7 w =>
    N (xv (Instr.loadAt 3 t7)) w fun t8 w =>
    M t8 fun t2 =>
    k (Env.p e 2 t2) w) := nr (by kernel_rfl)
theorem c11_2_s (hw : Cur w) : W3 Try.prog 9 V11 c11_2 Q e w = (opsW (nx Try.prog) mv gdP 9 V11 o11_3 (fun e w => Q .ret e w) o11_3.toList [] e e w) := by rw [(by kernel_rfl : c11_2 = .seq (.region 3 o11_3 false) Code.ret), W3_seq_reg]; simp only [W3_ret, W3_skip, W3_exit, W3_label]
theorem o11_1_eq : opsW N M G 9 V11 o11_1 k o11_1.toList [] e e w =
    (M (e 0) fun t3 =>
    N (xv (xbin BinOp.eql 24 (Operand.tmp 3) (Operand.const (Value.pointer none)) t3 (Value.pointer none))) w fun t4 w =>
    k (Env.p e 4 t4) w) := nr (by kernel_rfl)
theorem o11_2_eq : opsW N M G 9 V11 o11_2 k o11_2.toList [] e e w =
    (M (Value.int IntKind.i64 0) fun t2 =>
    k (Env.p e 2 t2) w) := nr (by kernel_rfl)
theorem c11_5_s (hw : Cur w) : W3 Try.prog 9 V11 c11_5 Q e w = (opsW (nx Try.prog) mv gdP 9 V11 o11_2 (fun e w => Q .ret e w) o11_2.toList [] e e w) := by rw [(by kernel_rfl : c11_5 = .seq (.region 2 o11_2 false) Code.ret), W3_seq_reg]; simp only [W3_ret, W3_skip, W3_exit, W3_label]
theorem c11_4_v : opV V11 (.tmp 4) = true := by kernel_rfl
theorem c11_4_s (hw : Cur w) : W3 Try.prog 9 V11 c11_4 Q e w = (condP (ev e (.tmp 4)) (W3 Try.prog 9 V11 c11_5 Q e w) (Q .normal e w)) := by rw [(by kernel_rfl : c11_4 = .cond (.tmp 4) c11_5 Code.skip), W3_cond, c11_4_v, cond_true]; simp only [W3_ret, W3_skip, W3_exit, W3_label]
theorem c11_3_s (hw : Cur w) : W3 Try.prog 9 V11 c11_3 Q e w = (opsW (nx Try.prog) mv gdP 9 V11 o11_1 (fun e w => W3 Try.prog 9 V11 c11_4 Q e w) o11_1.toList [] e e w) := by rw [(by kernel_rfl : c11_3 = .seq (.region 1 o11_1 false) c11_4), W3_seq_reg]
theorem c11_1_s (hw : Cur w) : W3 Try.prog 9 V11 c11_1 Q e w = (W3 Try.prog 9 V11 c11_3 (seqQ (fun e w => W3 Try.prog 9 V11 c11_2 Q e w) Q) e w) := by rw [(by kernel_rfl : c11_1 = .seq c11_3 c11_2), W3_seq]
theorem c11_s (hw : Cur w) : W3 Try.prog 9 V11 c11 Q e w = (opsW (nx Try.prog) mv gdP 9 V11 o11_0 (fun e w => W3 Try.prog 9 V11 c11_1 Q e w) o11_0.toList [] e e w) := by rw [(by kernel_rfl : c11 = .seq (.region 0 o11_0 false) c11_1), W3_seq_reg]
theorem call11 {a0 : Value} {w : World} {R : Value → World → Prop} (h : W3 Try.prog 9 V11 c11 (retQ Try.prog [.tmp 2] R) (argE [a0]) w) : CallsN Try.prog 11 [a0] w R :=
  callsN_of_W3 (c := c11) (rs := [.tmp 2]) V11 Try.ntmps11 (by rw [Try.results11]) mixed Try.func11 (by kernel_rfl) (by kernel_rfl) (by kernel_rfl) (by kernel_rfl) (by simp) h
noncomputable def hk11 := And.intro (@o11_0_eq) <| And.intro (@o11_3_eq) <| And.intro (@c11_2_s) <| And.intro (@o11_1_eq) <| And.intro (@o11_2_eq) <| And.intro (@c11_5_s) <| And.intro (@c11_4_s) <| And.intro (@c11_3_s) <| And.intro (@c11_1_s) <| @c11_s
-- K11: ↓hk11
/-! ### vouch/vouchlaw10.fixed -/
def V7 : Nat → Bool := fun i => [0, 1, 2, 3, 33].elem i
noncomputable def c7 : Code := (Try.f7.body.getD .skip)
noncomputable def o7_0 : Array Oper := rO (cL c7)
noncomputable def c7_1 : Code := (cR c7)
noncomputable def o7_1 : Array Oper := rO (cL c7_1)
noncomputable def c7_2 : Code := (cR c7_1)
noncomputable def c7_3 : Code := (cR c7_2)
noncomputable def o7_4 : Array Oper := rO (cL c7_3)
noncomputable def c7_4 : Code := (cR c7_3)
noncomputable def o7_5 : Array Oper := rO (cL c7_4)
noncomputable def c7_5 : Code := (cL c7_2)
noncomputable def o7_2 : Array Oper := rO (cL c7_5)
noncomputable def c7_6 : Code := (cR c7_5)
noncomputable def c7_7 : Code := (cL c7_6)
noncomputable def o7_3 : Array Oper := rO (cL c7_7)
theorem o7_0_eq : opsW N M G 59 V7 o7_0 k o7_0.toList [] e e w =
    (M (Value.bool false) fun t0 =>
    k (Env.p e 0 t0) w) := nr (by kernel_rfl)
theorem o7_1_eq : opsW N M G 59 V7 o7_1 k o7_1.toList [] e e w =
    (N (xcall (Value.func (Fn.func 8) #[] #[]) []) w fun t4 w =>
    M t4 fun t1 =>
    k (Env.p e 1 t1) w) := nr (by kernel_rfl)
theorem o7_4_eq : opsW N M G 59 V7 o7_4 k o7_4.toList [] e e w =
    (M (e 1) fun t35 =>
    N (xv (Instr.build 38 ([(0, (Value.int IntKind.i64 0)), (1, (Value.int IntKind.i64 4611686018427387904))]).toArray)) w fun t36 w =>
    N (xcall (Value.func (Fn.func 16) #[] #[]) [t35, (Value.string ⟨#[107]⟩), (Value.int IntKind.i64 8), t36]) w fun t37 w =>
    M t37 fun t34 =>
    N (xv (Instr.extract t34 0)) w fun t38 w =>
    N (xv (Instr.extract t34 1)) w fun t39 w =>
    N (xv (Instr.alloc 36 true (.tuple #[]))) w fun t2 w =>
    N (xu (Instr.storeAt 36 t2 t38)) w fun _ w =>
    M t39 fun t3 =>
    k (Env.p (Env.p e 2 t2) 3 t3) w) := nr (by kernel_rfl)
theorem o7_5_eq : opsW N M G 59 V7 o7_5 k o7_5.toList [] e e w =
    (M (e 3) fun t40 =>
    M t40 fun t41 =>
    G (isB t41 true) (fun K => N (xv (Instr.fieldAt 36 (e 2) 0)) w K) (fun t42 w =>
    G (isB t41 true) (fun K => N (xv (Instr.fieldAt 34 t42 2)) w K) (fun t43 w =>
    G (isB t41 true) (fun K => N (xv (Instr.loadAt 2 t43)) w K) (fun t44 w =>
    G (isB t41 true) (fun K => N (xv (xbin BinOp.eql 2 (Operand.tmp 44) (Operand.const (Value.int IntKind.i64 3)) t44 (Value.int IntKind.i64 3))) w K) (fun t45 w =>
    N (xpick t41 t45 (Value.bool false)) w fun t46 w =>
    M t46 fun t47 =>
    G (isB t47 true) (fun K => M (e 1) fun v => K v w) (fun t48 w =>
    G (isB t47 true) (fun K => N (xcall (Value.func (Fn.func 18) #[] #[]) [t48, (Value.string ⟨#[107]⟩)]) w K) (fun t49 w =>
    G (isB t47 true) (fun K => N (builtin Builtin.len #[27] 3 ([false]).toArray ([t49]).toArray) w K) (fun t50 w =>
    G (isB t47 true) (fun K => N (xv (xbin BinOp.eql 3 (Operand.tmp 50) (Operand.const (Value.int IntKind.i64 2)) t50 (Value.int IntKind.i64 2))) w K) (fun t51 w =>
    N (xpick t47 t51 (Value.bool false)) w fun t52 w =>
    M t52 fun t53 =>
    G (isB t53 true) (fun K => M (e 1) fun v => K v w) (fun t54 w =>
    G (isB t53 true) (fun K => N (xcall (Value.func (Fn.func 14) #[] #[]) [t54]) w K) (fun t55 w =>
    G (isB t53 true) (fun K => N (builtin Builtin.len #[27] 3 ([false]).toArray ([t55]).toArray) w K) (fun t56 w =>
    G (isB t53 true) (fun K => N (xv (xbin BinOp.eql 3 (Operand.tmp 56) (Operand.const (Value.int IntKind.i64 2)) t56 (Value.int IntKind.i64 2))) w K) (fun t57 w =>
    N (xpick t53 t57 (Value.bool false)) w fun t58 w =>
    M t58 fun t0 =>
    k (Env.p e 0 t0) w) w) w) w) w) w) w) w) w) w) w) w) w) := nr (by kernel_rfl)
theorem c7_4_s (hw : Cur w) : W3 Try.prog 59 V7 c7_4 Q e w = (opsW (nx Try.prog) mv gdP 59 V7 o7_5 (fun e w => Q .ret e w) o7_5.toList [] e e w) := by rw [(by kernel_rfl : c7_4 = .seq (.region 5 o7_5 false) Code.ret), W3_seq_reg]; simp only [W3_ret, W3_skip, W3_exit, W3_label]
theorem c7_3_s (hw : Cur w) : W3 Try.prog 59 V7 c7_3 Q e w = (opsW (nx Try.prog) mv gdP 59 V7 o7_4 (fun e w => W3 Try.prog 59 V7 c7_4 Q e w) o7_4.toList [] e e w) := by rw [(by kernel_rfl : c7_3 = .seq (.region 4 o7_4 false) c7_4), W3_seq_reg]
theorem o7_2_eq : opsW N M G 59 V7 o7_2 k o7_2.toList [] e e w =
    (M (e 1) fun t5 =>
    N (xv (xbin BinOp.eql 24 (Operand.tmp 5) (Operand.const (Value.pointer none)) t5 (Value.pointer none))) w fun t6 w =>
    M t6 fun t7 =>
    G (isB t7 false) (fun K => M (e 1) fun v => K v w) (fun t8 w =>
    G (isB t7 false) (fun K => N (xcall (Value.func (Fn.func 19) #[] #[]) [(Value.string ⟨#[107]⟩), (Value.int IntKind.i64 3), (Value.int IntKind.i64 7)]) w K) (fun t9 w =>
    G (isB t7 false) (fun K => N (xcall (Value.func (Fn.func 15) #[] #[]) [t8, t9]) w K) (fun t10 w =>
    G (isB t7 false) (fun K => N (xv (Op.unary UnOp.not t10)) w K) (fun t11 w =>
    N (xpick t7 (Value.bool true) t11) w fun t12 w =>
    M t12 fun t13 =>
    G (isB t13 false) (fun K => M (e 1) fun v => K v w) (fun t14 w =>
    G (isB t13 false) (fun K => N (xcall (Value.func (Fn.func 19) #[] #[]) [(Value.string ⟨#[107]⟩), (Value.int IntKind.i64 9), (Value.int IntKind.i64 4611686018427387904)]) w K) (fun t15 w =>
    G (isB t13 false) (fun K => N (xcall (Value.func (Fn.func 15) #[] #[]) [t14, t15]) w K) (fun t16 w =>
    G (isB t13 false) (fun K => N (xv (Op.unary UnOp.not t16)) w K) (fun t17 w =>
    N (xpick t13 (Value.bool true) t17) w fun t18 w =>
    M t18 fun t19 =>
    G (isB t19 false) (fun K => M (e 1) fun v => K v w) (fun t20 w =>
    G (isB t19 false) (fun K => N (xcall (Value.func (Fn.func 19) #[] #[]) [(Value.string ⟨#[107]⟩), (Value.int IntKind.i64 3), (Value.int IntKind.i64 3)]) w K) (fun t21 w =>
    G (isB t19 false) (fun K => N (xcall (Value.func (Fn.func 15) #[] #[]) [t20, t21]) w K) (fun t22 w =>
    N (xpick t19 (Value.bool true) t22) w fun t23 w =>
    M t23 fun t24 =>
    G (isB t24 false) (fun K => M (e 1) fun v => K v w) (fun t25 w =>
    G (isB t24 false) (fun K => N (xcall (Value.func (Fn.func 10) #[] #[]) [t25]) w K) (fun t26 w =>
    G (isB t24 false) (fun K => N (xv (xbin BinOp.neq 3 (Operand.tmp 26) (Operand.const (Value.int IntKind.i64 2)) t26 (Value.int IntKind.i64 2))) w K) (fun t27 w =>
    N (xpick t24 (Value.bool true) t27) w fun t28 w =>
    M t28 fun t29 =>
    G (isB t29 false) (fun K => M (e 1) fun v => K v w) (fun t30 w =>
    G (isB t29 false) (fun K => N (xcall (Value.func (Fn.func 11) #[] #[]) [t30]) w K) (fun t31 w =>
    G (isB t29 false) (fun K => N (xv (xbin BinOp.neq 3 (Operand.tmp 31) (Operand.const (Value.int IntKind.i64 66)) t31 (Value.int IntKind.i64 66))) w K) (fun t32 w =>
    N (xpick t29 (Value.bool true) t32) w fun t33 w =>
    k (Env.p e 33 t33) w) w) w) w) w) w) w) w) w) w) w) w) w) w) w) w) w) w) := nr (by kernel_rfl)
theorem o7_3_eq : opsW N M G 59 V7 o7_3 k o7_3.toList [] e e w =
    (M (Value.bool false) fun t0 =>
    k (Env.p e 0 t0) w) := nr (by kernel_rfl)
theorem c7_7_s (hw : Cur w) : W3 Try.prog 59 V7 c7_7 Q e w = (opsW (nx Try.prog) mv gdP 59 V7 o7_3 (fun e w => Q .ret e w) o7_3.toList [] e e w) := by rw [(by kernel_rfl : c7_7 = .seq (.region 3 o7_3 false) Code.ret), W3_seq_reg]; simp only [W3_ret, W3_skip, W3_exit, W3_label]
theorem c7_6_v : opV V7 (.tmp 33) = true := by kernel_rfl
theorem c7_6_s (hw : Cur w) : W3 Try.prog 59 V7 c7_6 Q e w = (condP (ev e (.tmp 33)) (W3 Try.prog 59 V7 c7_7 Q e w) (Q .normal e w)) := by rw [(by kernel_rfl : c7_6 = .cond (.tmp 33) c7_7 Code.skip), W3_cond, c7_6_v, cond_true]; simp only [W3_ret, W3_skip, W3_exit, W3_label]
theorem c7_5_s (hw : Cur w) : W3 Try.prog 59 V7 c7_5 Q e w = (opsW (nx Try.prog) mv gdP 59 V7 o7_2 (fun e w => W3 Try.prog 59 V7 c7_6 Q e w) o7_2.toList [] e e w) := by rw [(by kernel_rfl : c7_5 = .seq (.region 2 o7_2 false) c7_6), W3_seq_reg]
theorem c7_2_s (hw : Cur w) : W3 Try.prog 59 V7 c7_2 Q e w = (W3 Try.prog 59 V7 c7_5 (seqQ (fun e w => W3 Try.prog 59 V7 c7_3 Q e w) Q) e w) := by rw [(by kernel_rfl : c7_2 = .seq c7_5 c7_3), W3_seq]
theorem c7_1_s (hw : Cur w) : W3 Try.prog 59 V7 c7_1 Q e w = (opsW (nx Try.prog) mv gdP 59 V7 o7_1 (fun e w => W3 Try.prog 59 V7 c7_2 Q e w) o7_1.toList [] e e w) := by rw [(by kernel_rfl : c7_1 = .seq (.region 1 o7_1 false) c7_2), W3_seq_reg]
theorem c7_s (hw : Cur w) : W3 Try.prog 59 V7 c7 Q e w = (opsW (nx Try.prog) mv gdP 59 V7 o7_0 (fun e w => W3 Try.prog 59 V7 c7_1 Q e w) o7_0.toList [] e e w) := by rw [(by kernel_rfl : c7 = .seq (.region 0 o7_0 false) c7_1), W3_seq_reg]
theorem call7 {w : World} {R : Value → World → Prop} (h : W3 Try.prog 59 V7 c7 (retQ Try.prog [.tmp 0] R) (argE []) w) : CallsN Try.prog 7 [] w R :=
  callsN_of_W3 (c := c7) (rs := [.tmp 0]) V7 Try.ntmps7 (by rw [Try.results7]) mixed Try.func7 (by kernel_rfl) (by kernel_rfl) (by kernel_rfl) (by kernel_rfl) (by simp) h
noncomputable def hk7 := And.intro (@o7_0_eq) <| And.intro (@o7_1_eq) <| And.intro (@o7_4_eq) <| And.intro (@o7_5_eq) <| And.intro (@c7_4_s) <| And.intro (@c7_3_s) <| And.intro (@o7_2_eq) <| And.intro (@o7_3_eq) <| And.intro (@c7_7_s) <| And.intro (@c7_6_s) <| And.intro (@c7_5_s) <| And.intro (@c7_2_s) <| And.intro (@c7_1_s) <| @c7_s
-- K7: ↓hk7
/-! ### (*vouch/table.Table) . All -/
def V14 : Nat → Bool := fun i => [0, 2, 3, 5, 7, 13, 14, 15, 16].elem i
noncomputable def c14 : Code := (Try.f14.body.getD .skip)
noncomputable def o14_0 : Array Oper := rO (cL c14)
noncomputable def c14_1 : Code := (cR c14)
noncomputable def c14_2 : Code := (cR c14_1)
noncomputable def o14_3 : Array Oper := rO (cL c14_2)
noncomputable def c14_3 : Code := (cR c14_2)
noncomputable def c14_4 : Code := (cR c14_3)
noncomputable def o14_9 : Array Oper := rO (cL c14_4)
noncomputable def c14_5 : Code := (cL c14_3)
noncomputable def o14_4 : Array Oper := rO (cL c14_5)
noncomputable def c14_6 : Code := (cR c14_5)
noncomputable def c14_7 : Code := (cL c14_6)
noncomputable def c14_8 : Code := (cL c14_7)
noncomputable def o14_5 : Array Oper := rO (cL c14_8)
noncomputable def c14_9 : Code := (cR c14_8)
noncomputable def c14_10 : Code := (cR c14_9)
noncomputable def c14_11 : Code := (cR c14_10)
noncomputable def o14_8 : Array Oper := rO c14_11
noncomputable def c14_12 : Code := (cL c14_10)
noncomputable def c14_13 : Code := (cL c14_12)
noncomputable def o14_6 : Array Oper := rO (cL c14_13)
noncomputable def c14_14 : Code := (cR c14_13)
noncomputable def o14_7 : Array Oper := rO c14_14
noncomputable def c14_15 : Code := (cL c14_9)
noncomputable def c14_16 : Code := (cL c14_1)
noncomputable def o14_1 : Array Oper := rO (cL c14_16)
noncomputable def c14_17 : Code := (cR c14_16)
noncomputable def c14_18 : Code := (cL c14_17)
noncomputable def o14_2 : Array Oper := rO (cL c14_18)
theorem o14_0_eq : opsW N M G 29 V14 o14_0 k o14_0.toList [] e e w =
    (M (Value.slice none 0 0) fun t2 =>
    k (Env.p e 2 t2) w) := nr (by kernel_rfl)
theorem o14_3_eq : opsW N M G 29 V14 o14_3 k o14_3.toList [] e e w =
    (M (Value.slice none 0 0) fun t3 =>
    k (Env.p e 3 t3) w) := nr (by kernel_rfl)
theorem o14_9_eq : opsW N M G 29 V14 o14_9 k o14_9.toList [] e e w =
    (M (e 3) fun t28 =>
    M t28 fun t2 =>
    k (Env.p e 2 t2) w) := nr (by kernel_rfl)
theorem c14_4_s (hw : Cur w) : W3 Try.prog 29 V14 c14_4 Q e w = (opsW (nx Try.prog) mv gdP 29 V14 o14_9 (fun e w => Q .ret e w) o14_9.toList [] e e w) := by rw [(by kernel_rfl : c14_4 = .seq (.region 9 o14_9 false) Code.ret), W3_seq_reg]; simp only [W3_ret, W3_skip, W3_exit, W3_label]
theorem o14_4_eq : opsW N M G 29 V14 o14_4 k o14_4.toList [] e e w =
    (M (e 0) fun t8 =>
    N (xnil t8) w fun t9 w =>
    N (xv (Instr.fieldAt 56 t9 0)) w fun t10 w =>
    N (xv (Instr.loadAt 54 t10)) w fun t11 w =>
    N (xcall (Value.func (Fn.func 29) #[] #[]) [t11]) w fun t12 w =>
    N (xcall (Value.func (Fn.func 28) #[] #[]) [t12]) w fun t13 w =>
    N (builtin Builtin.len #[59] 3 ([false]).toArray ([t13]).toArray) w fun t14 w =>
    M (Value.int IntKind.i64 0) fun t15 =>
    k (Env.p (Env.p (Env.p e 13 t13) 14 t14) 15 t15) w) := nr (by kernel_rfl)
theorem o14_5_eq : opsW N M G 29 V14 o14_5 k o14_5.toList [] e e w =
    (N (xv (xbin BinOp.lss 3 (Operand.tmp 15) (Operand.tmp 14) (e 15) (e 14))) w fun t16 w =>
    k (Env.p e 16 t16) w) := nr (by kernel_rfl)
theorem o14_8_eq : opsW N M G 29 V14 o14_8 k o14_8.toList [] e e w =
    (N (xv (xbin BinOp.add 3 (Operand.tmp 15) (Operand.const (Value.int IntKind.i64 1)) (e 15) (Value.int IntKind.i64 1))) w fun t27 w =>
    M t27 fun t15 =>
    k (Env.p e 15 t15) w) := nr (by kernel_rfl)
theorem c14_11_s (hw : Cur w) : W3 Try.prog 29 V14 c14_11 Q e w = (opsW (nx Try.prog) mv gdP 29 V14 o14_8 (fun e w => Q .normal e w) o14_8.toList [] e e w) := by rw [(by kernel_rfl : c14_11 = (.region 8 o14_8 false)), W3_reg]
theorem o14_6_eq : opsW N M G 29 V14 o14_6 k o14_6.toList [] e e w =
    (N (xv (Instr.indexAt 59 (e 13) (e 15))) w fun t17 w =>
    N (xv (Instr.loadAt 9 t17)) w fun t18 w =>
    M t18 fun t5 =>
    k (Env.p e 5 t5) w) := nr (by kernel_rfl)
theorem o14_7_eq : opsW N M G 29 V14 o14_7 k o14_7.toList [] e e w =
    (M (e 3) fun t19 =>
    M (e 0) fun t20 =>
    N (xnil t20) w fun t21 w =>
    N (xv (Instr.fieldAt 56 t21 0)) w fun t22 w =>
    N (xv (Instr.loadAt 54 t22)) w fun t23 w =>
    M (e 5) fun t24 =>
    N (xv (Instr.lookup 54 t23 t24 false)) w fun t25 w =>
    N (builtin Builtin.append #[27, 27] 27 ([false, false]).toArray ([t19, t25]).toArray) w fun t26 w =>
    M t26 fun t3 =>
    k (Env.p e 3 t3) w) := nr (by kernel_rfl)
theorem c14_14_s (hw : Cur w) : W3 Try.prog 29 V14 c14_14 Q e w = (opsW (nx Try.prog) mv gdP 29 V14 o14_7 (fun e w => Q .normal e w) o14_7.toList [] e e w) := by rw [(by kernel_rfl : c14_14 = (.region 7 o14_7 false)), W3_reg]
theorem c14_13_s (hw : Cur w) : W3 Try.prog 29 V14 c14_13 Q e w = (opsW (nx Try.prog) mv gdP 29 V14 o14_6 (fun e w => W3 Try.prog 29 V14 c14_14 Q e w) o14_6.toList [] e e w) := by rw [(by kernel_rfl : c14_13 = .seq (.region 6 o14_6 false) c14_14), W3_seq_reg]
theorem c14_12_s (hw : Cur w) : W3 Try.prog 29 V14 c14_12 Q e w = (W3 Try.prog 29 V14 c14_13 (blockQ 1 Q) e w) := by rw [(by kernel_rfl : c14_12 = .block 1 c14_13), W3_block]
theorem c14_10_s (hw : Cur w) : W3 Try.prog 29 V14 c14_10 Q e w = (W3 Try.prog 29 V14 c14_12 (seqQ (fun e w => W3 Try.prog 29 V14 c14_11 Q e w) Q) e w) := by rw [(by kernel_rfl : c14_10 = .seq c14_12 c14_11), W3_seq]
theorem c14_15_v : opV V14 (.tmp 16) = true := by kernel_rfl
theorem c14_15_s (hw : Cur w) : W3 Try.prog 29 V14 c14_15 Q e w = (condP (ev e (.tmp 16)) (Q .normal e w) (Q (.exit 0) e w)) := by rw [(by kernel_rfl : c14_15 = .cond (.tmp 16) Code.skip (Code.exit 0)), W3_cond, c14_15_v, cond_true]; simp only [W3_ret, W3_skip, W3_exit, W3_label]
theorem c14_9_s (hw : Cur w) : W3 Try.prog 29 V14 c14_9 Q e w = (W3 Try.prog 29 V14 c14_15 (seqQ (fun e w => W3 Try.prog 29 V14 c14_10 Q e w) Q) e w) := by rw [(by kernel_rfl : c14_9 = .seq c14_15 c14_10), W3_seq]
theorem c14_8_s (hw : Cur w) : W3 Try.prog 29 V14 c14_8 Q e w = (opsW (nx Try.prog) mv gdP 29 V14 o14_5 (fun e w => W3 Try.prog 29 V14 c14_9 Q e w) o14_5.toList [] e e w) := by rw [(by kernel_rfl : c14_8 = .seq (.region 5 o14_5 false) c14_9), W3_seq_reg]
theorem c14_7_s (hw : Cur w) : W3 Try.prog 29 V14 c14_7 Q e w = (LoopP (fun e w k => W3 Try.prog 29 V14 c14_8 (seqQ k Q) e w) e w) := by rw [(by kernel_rfl : c14_7 = .loop c14_8), W3_loop]
theorem c14_6_s (hw : Cur w) : W3 Try.prog 29 V14 c14_6 Q e w = (W3 Try.prog 29 V14 c14_7 (blockQ 0 Q) e w) := by rw [(by kernel_rfl : c14_6 = .block 0 c14_7), W3_block]
theorem c14_5_s (hw : Cur w) : W3 Try.prog 29 V14 c14_5 Q e w = (opsW (nx Try.prog) mv gdP 29 V14 o14_4 (fun e w => W3 Try.prog 29 V14 c14_6 Q e w) o14_4.toList [] e e w) := by rw [(by kernel_rfl : c14_5 = .seq (.region 4 o14_4 false) c14_6), W3_seq_reg]
theorem c14_3_s (hw : Cur w) : W3 Try.prog 29 V14 c14_3 Q e w = (W3 Try.prog 29 V14 c14_5 (seqQ (fun e w => W3 Try.prog 29 V14 c14_4 Q e w) Q) e w) := by rw [(by kernel_rfl : c14_3 = .seq c14_5 c14_4), W3_seq]
theorem c14_2_s (hw : Cur w) : W3 Try.prog 29 V14 c14_2 Q e w = (opsW (nx Try.prog) mv gdP 29 V14 o14_3 (fun e w => W3 Try.prog 29 V14 c14_3 Q e w) o14_3.toList [] e e w) := by rw [(by kernel_rfl : c14_2 = .seq (.region 3 o14_3 false) c14_3), W3_seq_reg]
theorem o14_1_eq : opsW N M G 29 V14 o14_1 k o14_1.toList [] e e w =
    (M (e 0) fun t6 =>
    N (xv (xbin BinOp.eql 24 (Operand.tmp 6) (Operand.const (Value.pointer none)) t6 (Value.pointer none))) w fun t7 w =>
    k (Env.p e 7 t7) w) := nr (by kernel_rfl)
theorem o14_2_eq : opsW N M G 29 V14 o14_2 k o14_2.toList [] e e w =
    (M (Value.slice none 0 0) fun t2 =>
    k (Env.p e 2 t2) w) := nr (by kernel_rfl)
theorem c14_18_s (hw : Cur w) : W3 Try.prog 29 V14 c14_18 Q e w = (opsW (nx Try.prog) mv gdP 29 V14 o14_2 (fun e w => Q .ret e w) o14_2.toList [] e e w) := by rw [(by kernel_rfl : c14_18 = .seq (.region 2 o14_2 false) Code.ret), W3_seq_reg]; simp only [W3_ret, W3_skip, W3_exit, W3_label]
theorem c14_17_v : opV V14 (.tmp 7) = true := by kernel_rfl
theorem c14_17_s (hw : Cur w) : W3 Try.prog 29 V14 c14_17 Q e w = (condP (ev e (.tmp 7)) (W3 Try.prog 29 V14 c14_18 Q e w) (Q .normal e w)) := by rw [(by kernel_rfl : c14_17 = .cond (.tmp 7) c14_18 Code.skip), W3_cond, c14_17_v, cond_true]; simp only [W3_ret, W3_skip, W3_exit, W3_label]
theorem c14_16_s (hw : Cur w) : W3 Try.prog 29 V14 c14_16 Q e w = (opsW (nx Try.prog) mv gdP 29 V14 o14_1 (fun e w => W3 Try.prog 29 V14 c14_17 Q e w) o14_1.toList [] e e w) := by rw [(by kernel_rfl : c14_16 = .seq (.region 1 o14_1 false) c14_17), W3_seq_reg]
theorem c14_1_s (hw : Cur w) : W3 Try.prog 29 V14 c14_1 Q e w = (W3 Try.prog 29 V14 c14_16 (seqQ (fun e w => W3 Try.prog 29 V14 c14_2 Q e w) Q) e w) := by rw [(by kernel_rfl : c14_1 = .seq c14_16 c14_2), W3_seq]
theorem c14_s (hw : Cur w) : W3 Try.prog 29 V14 c14 Q e w = (opsW (nx Try.prog) mv gdP 29 V14 o14_0 (fun e w => W3 Try.prog 29 V14 c14_1 Q e w) o14_0.toList [] e e w) := by rw [(by kernel_rfl : c14 = .seq (.region 0 o14_0 false) c14_1), W3_seq_reg]
theorem call14 {a0 : Value} {w : World} {R : Value → World → Prop} (h : W3 Try.prog 29 V14 c14 (retQ Try.prog [.tmp 2] R) (argE [a0]) w) : CallsN Try.prog 14 [a0] w R :=
  callsN_of_W3 (c := c14) (rs := [.tmp 2]) V14 Try.ntmps14 (by rw [Try.results14]) mixed Try.func14 (by kernel_rfl) (by kernel_rfl) (by kernel_rfl) (by kernel_rfl) (by simp) h
noncomputable def hk14 := And.intro (@o14_0_eq) <| And.intro (@o14_3_eq) <| And.intro (@o14_9_eq) <| And.intro (@c14_4_s) <| And.intro (@o14_4_eq) <| And.intro (@o14_5_eq) <| And.intro (@o14_8_eq) <| And.intro (@c14_11_s) <| And.intro (@o14_6_eq) <| And.intro (@o14_7_eq) <| And.intro (@c14_14_s) <| And.intro (@c14_13_s) <| And.intro (@c14_12_s) <| And.intro (@c14_10_s) <| And.intro (@c14_15_s) <| And.intro (@c14_9_s) <| And.intro (@c14_8_s) <| And.intro (@c14_7_s) <| And.intro (@c14_6_s) <| And.intro (@c14_5_s) <| And.intro (@c14_3_s) <| And.intro (@c14_2_s) <| And.intro (@o14_1_eq) <| And.intro (@o14_2_eq) <| And.intro (@c14_18_s) <| And.intro (@c14_17_s) <| And.intro (@c14_16_s) <| And.intro (@c14_1_s) <| @c14_s
-- K14: ↓hk14
/-! ### (*vouch/table.Table) . Find -/
def V16 : Nat → Bool := fun i => [0, 1, 2, 3, 7, 8, 9, 10, 11, 19, 29].elem i
noncomputable def c16 : Code := (Try.f16.body.getD .skip)
noncomputable def o16_0 : Array Oper := rO (cL c16)
noncomputable def c16_1 : Code := (cR c16)
noncomputable def o16_1 : Array Oper := rO (cL c16_1)
noncomputable def c16_2 : Code := (cR c16_1)
noncomputable def c16_3 : Code := (cR c16_2)
noncomputable def o16_7 : Array Oper := rO (cL c16_3)
noncomputable def c16_4 : Code := (cL c16_2)
noncomputable def o16_2 : Array Oper := rO (cL c16_4)
noncomputable def c16_5 : Code := (cR c16_4)
noncomputable def c16_6 : Code := (cL c16_5)
noncomputable def c16_7 : Code := (cL c16_6)
noncomputable def c16_8 : Code := (cR c16_7)
noncomputable def c16_9 : Code := (cR c16_8)
noncomputable def o16_4 : Array Oper := rO c16_9
noncomputable def c16_10 : Code := (cL c16_8)
noncomputable def c16_11 : Code := (cL c16_10)
noncomputable def o16_5 : Array Oper := rO (cL c16_11)
noncomputable def c16_12 : Code := (cR c16_11)
noncomputable def c16_13 : Code := (cL c16_12)
noncomputable def o16_6 : Array Oper := rO (cL c16_13)
noncomputable def c16_14 : Code := (cL c16_7)
noncomputable def o16_3 : Array Oper := rO (cL c16_14)
noncomputable def c16_15 : Code := (cR c16_14)
theorem o16_0_eq : opsW N M G 35 V16 o16_0 k o16_0.toList [] e e w =
    (N (xv (Instr.box 38 (e 3))) w fun t7 w =>
    N (xv (Instr.alloc 36 true (.tuple #[]))) w fun t8 w =>
    M (Value.bool false) fun t9 =>
    k (Env.p (Env.p (Env.p e 7 t7) 8 t8) 9 t9) w) := nr (by kernel_rfl)
theorem o16_1_eq : opsW N M G 35 V16 o16_1 k o16_1.toList [] e e w =
    (M (e 0) fun t12 =>
    M (e 1) fun t13 =>
    N (xcall (Value.func (Fn.func 34) #[] #[]) [t12, t13]) w fun t14 w =>
    M t14 fun t10 =>
    k (Env.p e 10 t10) w) := nr (by kernel_rfl)
theorem o16_7_eq : opsW N M G 35 V16 o16_7 k o16_7.toList [] e e w =
    (N (xv (Instr.build 36 ([]).toArray)) w fun t34 w =>
    N (xu (Instr.storeAt 36 (e 8) t34)) w fun _ w =>
    M (Value.bool false) fun t9 =>
    k (Env.p e 9 t9) w) := nr (by kernel_rfl)
theorem c16_3_s (hw : Cur w) : W3 Try.prog 35 V16 c16_3 Q e w = (opsW (nx Try.prog) mv gdP 35 V16 o16_7 (fun e w => Q .ret e w) o16_7.toList [] e e w) := by rw [(by kernel_rfl : c16_3 = .seq (.region 7 o16_7 false) Code.ret), W3_seq_reg]; simp only [W3_ret, W3_skip, W3_exit, W3_label]
theorem o16_2_eq : opsW N M G 35 V16 o16_2 k o16_2.toList [] e e w =
    (M (e 10) fun t15 =>
    N (builtin Builtin.len #[27] 3 ([false]).toArray ([t15]).toArray) w fun t16 w =>
    N (xv (xbin BinOp.sub 3 (Operand.tmp 16) (Operand.const (Value.int IntKind.i64 1)) t16 (Value.int IntKind.i64 1))) w fun t17 w =>
    M t17 fun t11 =>
    k (Env.p e 11 t11) w) := nr (by kernel_rfl)
theorem o16_4_eq : opsW N M G 35 V16 o16_4 k o16_4.toList [] e e w =
    (M (e 11) fun t20 =>
    N (xv (xbin BinOp.sub 3 (Operand.tmp 20) (Operand.const (Value.int IntKind.i64 1)) t20 (Value.int IntKind.i64 1))) w fun t21 w =>
    M t21 fun t11 =>
    k (Env.p e 11 t11) w) := nr (by kernel_rfl)
theorem c16_9_s (hw : Cur w) : W3 Try.prog 35 V16 c16_9 Q e w = (opsW (nx Try.prog) mv gdP 35 V16 o16_4 (fun e w => Q .normal e w) o16_4.toList [] e e w) := by rw [(by kernel_rfl : c16_9 = (.region 4 o16_4 false)), W3_reg]
theorem o16_5_eq : drawGo3 N T3 M G H 35 V16 o16_5 (puK o16_5) k o16_5.size [] (Array.replicate o16_5.size false) [] e e w =
    (M (e 10) fun t22 =>
    M (e 11) fun t23 =>
    T3 (FrX none w) (xv (Instr.indexAt 27 t22 t23)) fun t24 =>
    T3 (FrX none w) (xv (Instr.fieldAt 36 t24 0)) fun t25 =>
    T3 (FrX (some []) w) (xv (Instr.loadAt 34 t25)) fun t26 =>
    M (e 2) fun t27 =>
    T3 (FrX (some []) w) (xv (Instr.loadAt 38 (e 7))) fun t28 =>
    N (xcall (Value.func (Fn.func 35) #[] #[]) [t26, t27, t28]) w fun t29 w7 =>
    (k (Env.p e 29 t29)) w7) := nr (by kernel_rfl)
theorem o16_6_eq : opsW N M G 35 V16 o16_6 k o16_6.toList [] e e w =
    (M (e 10) fun t30 =>
    M (e 11) fun t31 =>
    N (xv (Instr.indexAt 27 t30 t31)) w fun t32 w =>
    N (xv (Instr.loadAt 36 t32)) w fun t33 w =>
    N (xu (Instr.storeAt 36 (e 8) t33)) w fun _ w =>
    M (Value.bool true) fun t9 =>
    k (Env.p e 9 t9) w) := nr (by kernel_rfl)
theorem c16_13_s (hw : Cur w) : W3 Try.prog 35 V16 c16_13 Q e w = (opsW (nx Try.prog) mv gdP 35 V16 o16_6 (fun e w => Q .ret e w) o16_6.toList [] e e w) := by rw [(by kernel_rfl : c16_13 = .seq (.region 6 o16_6 false) Code.ret), W3_seq_reg]; simp only [W3_ret, W3_skip, W3_exit, W3_label]
theorem c16_12_v : opV V16 (.tmp 29) = true := by kernel_rfl
theorem c16_12_s (hw : Cur w) : W3 Try.prog 35 V16 c16_12 Q e w = (condP (ev e (.tmp 29)) (W3 Try.prog 35 V16 c16_13 Q e w) (Q .normal e w)) := by rw [(by kernel_rfl : c16_12 = .cond (.tmp 29) c16_13 Code.skip), W3_cond, c16_12_v, cond_true]; simp only [W3_ret, W3_skip, W3_exit, W3_label]
theorem c16_11_s (hw : Cur w) : W3 Try.prog 35 V16 c16_11 Q e w = (drawGo3 (nx Try.prog) (takeP Try.prog) mv gdP gdT 35 V16 o16_5 (puK o16_5) (fun e w => W3 Try.prog 35 V16 c16_12 Q e w) o16_5.size [] (Array.replicate o16_5.size false) [] e e w.drew) := by rw [(by kernel_rfl : c16_11 = .seq (.region 5 o16_5 true) c16_12), W3_seq_regD]
theorem c16_10_s (hw : Cur w) : W3 Try.prog 35 V16 c16_10 Q e w = (W3 Try.prog 35 V16 c16_11 (blockQ 1 Q) e w) := by rw [(by kernel_rfl : c16_10 = .block 1 c16_11), W3_block]
theorem c16_8_s (hw : Cur w) : W3 Try.prog 35 V16 c16_8 Q e w = (W3 Try.prog 35 V16 c16_10 (seqQ (fun e w => W3 Try.prog 35 V16 c16_9 Q e w) Q) e w) := by rw [(by kernel_rfl : c16_8 = .seq c16_10 c16_9), W3_seq]
theorem o16_3_eq : opsW N M G 35 V16 o16_3 k o16_3.toList [] e e w =
    (M (e 11) fun t18 =>
    N (xv (xbin BinOp.geq 3 (Operand.tmp 18) (Operand.const (Value.int IntKind.i64 0)) t18 (Value.int IntKind.i64 0))) w fun t19 w =>
    k (Env.p e 19 t19) w) := nr (by kernel_rfl)
theorem c16_15_v : opV V16 (.tmp 19) = true := by kernel_rfl
theorem c16_15_s (hw : Cur w) : W3 Try.prog 35 V16 c16_15 Q e w = (condP (ev e (.tmp 19)) (Q .normal e w) (Q (.exit 0) e w)) := by rw [(by kernel_rfl : c16_15 = .cond (.tmp 19) Code.skip (Code.exit 0)), W3_cond, c16_15_v, cond_true]; simp only [W3_ret, W3_skip, W3_exit, W3_label]
theorem c16_14_s (hw : Cur w) : W3 Try.prog 35 V16 c16_14 Q e w = (opsW (nx Try.prog) mv gdP 35 V16 o16_3 (fun e w => W3 Try.prog 35 V16 c16_15 Q e w) o16_3.toList [] e e w) := by rw [(by kernel_rfl : c16_14 = .seq (.region 3 o16_3 false) c16_15), W3_seq_reg]
theorem c16_7_s (hw : Cur w) : W3 Try.prog 35 V16 c16_7 Q e w = (W3 Try.prog 35 V16 c16_14 (seqQ (fun e w => W3 Try.prog 35 V16 c16_8 Q e w) Q) e w) := by rw [(by kernel_rfl : c16_7 = .seq c16_14 c16_8), W3_seq]
theorem c16_6_s (hw : Cur w) : W3 Try.prog 35 V16 c16_6 Q e w = (LoopP (fun e w k => W3 Try.prog 35 V16 c16_7 (seqQ k Q) e w) e w) := by rw [(by kernel_rfl : c16_6 = .loop c16_7), W3_loop]
theorem c16_5_s (hw : Cur w) : W3 Try.prog 35 V16 c16_5 Q e w = (W3 Try.prog 35 V16 c16_6 (blockQ 0 Q) e w) := by rw [(by kernel_rfl : c16_5 = .block 0 c16_6), W3_block]
theorem c16_4_s (hw : Cur w) : W3 Try.prog 35 V16 c16_4 Q e w = (opsW (nx Try.prog) mv gdP 35 V16 o16_2 (fun e w => W3 Try.prog 35 V16 c16_5 Q e w) o16_2.toList [] e e w) := by rw [(by kernel_rfl : c16_4 = .seq (.region 2 o16_2 false) c16_5), W3_seq_reg]
theorem c16_2_s (hw : Cur w) : W3 Try.prog 35 V16 c16_2 Q e w = (W3 Try.prog 35 V16 c16_4 (seqQ (fun e w => W3 Try.prog 35 V16 c16_3 Q e w) Q) e w) := by rw [(by kernel_rfl : c16_2 = .seq c16_4 c16_3), W3_seq]
theorem c16_1_s (hw : Cur w) : W3 Try.prog 35 V16 c16_1 Q e w = (opsW (nx Try.prog) mv gdP 35 V16 o16_1 (fun e w => W3 Try.prog 35 V16 c16_2 Q e w) o16_1.toList [] e e w) := by rw [(by kernel_rfl : c16_1 = .seq (.region 1 o16_1 false) c16_2), W3_seq_reg]
theorem c16_s (hw : Cur w) : W3 Try.prog 35 V16 c16 Q e w = (opsW (nx Try.prog) mv gdP 35 V16 o16_0 (fun e w => W3 Try.prog 35 V16 c16_1 Q e w) o16_0.toList [] e e w) := by rw [(by kernel_rfl : c16 = .seq (.region 0 o16_0 false) c16_1), W3_seq_reg]
theorem call16 {a0 a1 a2 a3 : Value} {w : World} {R : Value → World → Prop} (h : W3 Try.prog 35 V16 c16 (retQ Try.prog [.cell 8 36, .tmp 9] R) (argE [a0, a1, a2, a3]) w) : CallsN Try.prog 16 [a0, a1, a2, a3] w R :=
  callsN_of_W3 (c := c16) (rs := [.cell 8 36, .tmp 9]) V16 Try.ntmps16 (by rw [Try.results16]) mixed Try.func16 (by kernel_rfl) (by kernel_rfl) (by kernel_rfl) (by kernel_rfl) (by simp) h
noncomputable def hk16 := And.intro (@o16_0_eq) <| And.intro (@o16_1_eq) <| And.intro (@o16_7_eq) <| And.intro (@c16_3_s) <| And.intro (@o16_2_eq) <| And.intro (@o16_4_eq) <| And.intro (@c16_9_s) <| And.intro (@o16_5_eq) <| And.intro (@o16_6_eq) <| And.intro (@c16_13_s) <| And.intro (@c16_12_s) <| And.intro (@c16_11_s) <| And.intro (@c16_10_s) <| And.intro (@c16_8_s) <| And.intro (@o16_3_eq) <| And.intro (@c16_15_s) <| And.intro (@c16_14_s) <| And.intro (@c16_7_s) <| And.intro (@c16_6_s) <| And.intro (@c16_5_s) <| And.intro (@c16_4_s) <| And.intro (@c16_2_s) <| And.intro (@c16_1_s) <| @c16_s
-- K16: ↓hk16
/-! ### (*vouch/table.Table) . Get -/
def V17 : Nat → Bool := fun i => [0, 1, 2, 6, 7, 8, 9, 18].elem i
noncomputable def c17 : Code := (Try.f17.body.getD .skip)
noncomputable def o17_0 : Array Oper := rO (cL c17)
noncomputable def c17_1 : Code := (cR c17)
noncomputable def o17_1 : Array Oper := rO (cL c17_1)
noncomputable def c17_2 : Code := (cR c17_1)
noncomputable def c17_3 : Code := (cR c17_2)
noncomputable def o17_4 : Array Oper := rO (cL c17_3)
noncomputable def c17_4 : Code := (cL c17_2)
noncomputable def o17_2 : Array Oper := rO (cL c17_4)
noncomputable def c17_5 : Code := (cR c17_4)
noncomputable def c17_6 : Code := (cL c17_5)
noncomputable def o17_3 : Array Oper := rO (cL c17_6)
theorem o17_0_eq : opsW N M G 26 V17 o17_0 k o17_0.toList [] e e w =
    (N (xv (Instr.alloc 36 true (.tuple #[]))) w fun t6 w =>
    M (Value.bool false) fun t7 =>
    k (Env.p (Env.p e 6 t6) 7 t7) w) := nr (by kernel_rfl)
theorem o17_1_eq : opsW N M G 26 V17 o17_1 k o17_1.toList [] e e w =
    (M (e 0) fun t11 =>
    M (e 1) fun t12 =>
    M (e 2) fun t13 =>
    N (xcall (Value.func (Fn.func 31) #[] #[]) [t11, t12, t13]) w fun t14 w =>
    M t14 fun t10 =>
    N (xv (Instr.extract t10 0)) w fun t15 w =>
    N (xv (Instr.extract t10 1)) w fun t16 w =>
    M t15 fun t8 =>
    M t16 fun t9 =>
    k (Env.p (Env.p e 8 t8) 9 t9) w) := nr (by kernel_rfl)
theorem o17_4_eq : opsW N M G 26 V17 o17_4 k o17_4.toList [] e e w =
    (M (e 0) fun t20 =>
    M (e 1) fun t21 =>
    N (xcall (Value.func (Fn.func 34) #[] #[]) [t20, t21]) w fun t22 w =>
    M (e 8) fun t23 =>
    N (xv (Instr.indexAt 27 t22 t23)) w fun t24 w =>
    N (xv (Instr.loadAt 36 t24)) w fun t25 w =>
    N (xu (Instr.storeAt 36 (e 6) t25)) w fun _ w =>
    M (Value.bool true) fun t7 =>
    k (Env.p e 7 t7) w) := nr (by kernel_rfl)
theorem c17_3_s (hw : Cur w) : W3 Try.prog 26 V17 c17_3 Q e w = (opsW (nx Try.prog) mv gdP 26 V17 o17_4 (fun e w => Q .ret e w) o17_4.toList [] e e w) := by rw [(by kernel_rfl : c17_3 = .seq (.region 4 o17_4 false) Code.ret), W3_seq_reg]; simp only [W3_ret, W3_skip, W3_exit, W3_label]
theorem o17_2_eq : opsW N M G 26 V17 o17_2 k o17_2.toList [] e e w =
    (M (e 9) fun t17 =>
    N (xv (Op.unary UnOp.not t17)) w fun t18 w =>
    k (Env.p e 18 t18) w) := nr (by kernel_rfl)
theorem o17_3_eq : opsW N M G 26 V17 o17_3 k o17_3.toList [] e e w =
    (N (xv (Instr.build 36 ([]).toArray)) w fun t19 w =>
    N (xu (Instr.storeAt 36 (e 6) t19)) w fun _ w =>
    M (Value.bool false) fun t7 =>
    k (Env.p e 7 t7) w) := nr (by kernel_rfl)
theorem c17_6_s (hw : Cur w) : W3 Try.prog 26 V17 c17_6 Q e w = (opsW (nx Try.prog) mv gdP 26 V17 o17_3 (fun e w => Q .ret e w) o17_3.toList [] e e w) := by rw [(by kernel_rfl : c17_6 = .seq (.region 3 o17_3 false) Code.ret), W3_seq_reg]; simp only [W3_ret, W3_skip, W3_exit, W3_label]
theorem c17_5_v : opV V17 (.tmp 18) = true := by kernel_rfl
theorem c17_5_s (hw : Cur w) : W3 Try.prog 26 V17 c17_5 Q e w = (condP (ev e (.tmp 18)) (W3 Try.prog 26 V17 c17_6 Q e w) (Q .normal e w)) := by rw [(by kernel_rfl : c17_5 = .cond (.tmp 18) c17_6 Code.skip), W3_cond, c17_5_v, cond_true]; simp only [W3_ret, W3_skip, W3_exit, W3_label]
theorem c17_4_s (hw : Cur w) : W3 Try.prog 26 V17 c17_4 Q e w = (opsW (nx Try.prog) mv gdP 26 V17 o17_2 (fun e w => W3 Try.prog 26 V17 c17_5 Q e w) o17_2.toList [] e e w) := by rw [(by kernel_rfl : c17_4 = .seq (.region 2 o17_2 false) c17_5), W3_seq_reg]
theorem c17_2_s (hw : Cur w) : W3 Try.prog 26 V17 c17_2 Q e w = (W3 Try.prog 26 V17 c17_4 (seqQ (fun e w => W3 Try.prog 26 V17 c17_3 Q e w) Q) e w) := by rw [(by kernel_rfl : c17_2 = .seq c17_4 c17_3), W3_seq]
theorem c17_1_s (hw : Cur w) : W3 Try.prog 26 V17 c17_1 Q e w = (opsW (nx Try.prog) mv gdP 26 V17 o17_1 (fun e w => W3 Try.prog 26 V17 c17_2 Q e w) o17_1.toList [] e e w) := by rw [(by kernel_rfl : c17_1 = .seq (.region 1 o17_1 false) c17_2), W3_seq_reg]
theorem c17_s (hw : Cur w) : W3 Try.prog 26 V17 c17 Q e w = (opsW (nx Try.prog) mv gdP 26 V17 o17_0 (fun e w => W3 Try.prog 26 V17 c17_1 Q e w) o17_0.toList [] e e w) := by rw [(by kernel_rfl : c17 = .seq (.region 0 o17_0 false) c17_1), W3_seq_reg]
theorem call17 {a0 a1 a2 : Value} {w : World} {R : Value → World → Prop} (h : W3 Try.prog 26 V17 c17 (retQ Try.prog [.cell 6 36, .tmp 7] R) (argE [a0, a1, a2]) w) : CallsN Try.prog 17 [a0, a1, a2] w R :=
  callsN_of_W3 (c := c17) (rs := [.cell 6 36, .tmp 7]) V17 Try.ntmps17 (by rw [Try.results17]) mixed Try.func17 (by kernel_rfl) (by kernel_rfl) (by kernel_rfl) (by kernel_rfl) (by simp) h
noncomputable def hk17 := And.intro (@o17_0_eq) <| And.intro (@o17_1_eq) <| And.intro (@o17_4_eq) <| And.intro (@c17_3_s) <| And.intro (@o17_2_eq) <| And.intro (@o17_3_eq) <| And.intro (@c17_6_s) <| And.intro (@c17_5_s) <| And.intro (@c17_4_s) <| And.intro (@c17_2_s) <| And.intro (@c17_1_s) <| @c17_s
-- K17: ↓hk17
/-! ### (*vouch/table.Table) . Of -/
def V18 : Nat → Bool := fun i => [0, 1, 4].elem i
noncomputable def c18 : Code := (Try.f18.body.getD .skip)
noncomputable def o18_0 : Array Oper := rO (cL c18)
noncomputable def c18_1 : Code := (cR c18)
noncomputable def o18_1 : Array Oper := rO (cL c18_1)
theorem o18_0_eq : opsW N M G 9 V18 o18_0 k o18_0.toList [] e e w =
    (M (Value.slice none 0 0) fun t4 =>
    k (Env.p e 4 t4) w) := nr (by kernel_rfl)
theorem o18_1_eq : opsW N M G 9 V18 o18_1 k o18_1.toList [] e e w =
    (M (e 0) fun t5 =>
    M (e 1) fun t6 =>
    N (xcall (Value.func (Fn.func 34) #[] #[]) [t5, t6]) w fun t7 w =>
    N (xcall (Value.func (Fn.func 36) #[] #[]) [t7]) w fun t8 w =>
    M t8 fun t4 =>
    k (Env.p e 4 t4) w) := nr (by kernel_rfl)
theorem c18_1_s (hw : Cur w) : W3 Try.prog 9 V18 c18_1 Q e w = (opsW (nx Try.prog) mv gdP 9 V18 o18_1 (fun e w => Q .ret e w) o18_1.toList [] e e w) := by rw [(by kernel_rfl : c18_1 = .seq (.region 1 o18_1 false) Code.ret), W3_seq_reg]; simp only [W3_ret, W3_skip, W3_exit, W3_label]
theorem c18_s (hw : Cur w) : W3 Try.prog 9 V18 c18 Q e w = (opsW (nx Try.prog) mv gdP 9 V18 o18_0 (fun e w => W3 Try.prog 9 V18 c18_1 Q e w) o18_0.toList [] e e w) := by rw [(by kernel_rfl : c18 = .seq (.region 0 o18_0 false) c18_1), W3_seq_reg]
theorem call18 {a0 a1 : Value} {w : World} {R : Value → World → Prop} (h : W3 Try.prog 9 V18 c18 (retQ Try.prog [.tmp 4] R) (argE [a0, a1]) w) : CallsN Try.prog 18 [a0, a1] w R :=
  callsN_of_W3 (c := c18) (rs := [.tmp 4]) V18 Try.ntmps18 (by rw [Try.results18]) mixed Try.func18 (by kernel_rfl) (by kernel_rfl) (by kernel_rfl) (by kernel_rfl) (by simp) h
noncomputable def hk18 := And.intro (@o18_0_eq) <| And.intro (@o18_1_eq) <| And.intro (@c18_1_s) <| @c18_s
-- K18: ↓hk18
/-! ### vouch/vouchlaw10.entry -/
def V19 : Nat → Bool := fun i => [0, 1, 2, 6].elem i
noncomputable def c19 : Code := (Try.f19.body.getD .skip)
noncomputable def o19_0 : Array Oper := rO (cL c19)
noncomputable def c19_1 : Code := (cR c19)
noncomputable def o19_1 : Array Oper := rO (cL c19_1)
theorem o19_0_eq : opsW N M G 12 V19 o19_0 k o19_0.toList [] e e w =
    (N (xv (Instr.alloc 36 true (.tuple #[]))) w fun t6 w =>
    k (Env.p e 6 t6) w) := nr (by kernel_rfl)
theorem o19_1_eq : opsW N M G 12 V19 o19_1 k o19_1.toList [] e e w =
    (M (e 0) fun t7 =>
    M (e 1) fun t8 =>
    M (e 2) fun t9 =>
    N (xv (Instr.build 34 ([(0, t7), (2, t8), (3, t9)]).toArray)) w fun t10 w =>
    N (xv (Instr.build 36 ([(0, t10)]).toArray)) w fun t11 w =>
    N (xu (Instr.storeAt 36 (e 6) t11)) w fun _ w =>
    k e w) := nr (by kernel_rfl)
theorem c19_1_s (hw : Cur w) : W3 Try.prog 12 V19 c19_1 Q e w = (opsW (nx Try.prog) mv gdP 12 V19 o19_1 (fun e w => Q .ret e w) o19_1.toList [] e e w) := by rw [(by kernel_rfl : c19_1 = .seq (.region 1 o19_1 false) Code.ret), W3_seq_reg]; simp only [W3_ret, W3_skip, W3_exit, W3_label]
theorem c19_s (hw : Cur w) : W3 Try.prog 12 V19 c19 Q e w = (opsW (nx Try.prog) mv gdP 12 V19 o19_0 (fun e w => W3 Try.prog 12 V19 c19_1 Q e w) o19_0.toList [] e e w) := by rw [(by kernel_rfl : c19 = .seq (.region 0 o19_0 false) c19_1), W3_seq_reg]
theorem call19 {a0 a1 a2 : Value} {w : World} {R : Value → World → Prop} (h : W3 Try.prog 12 V19 c19 (retQ Try.prog [.cell 6 36] R) (argE [a0, a1, a2]) w) : CallsN Try.prog 19 [a0, a1, a2] w R :=
  callsN_of_W3 (c := c19) (rs := [.cell 6 36]) V19 Try.ntmps19 (by rw [Try.results19]) mixed Try.func19 (by kernel_rfl) (by kernel_rfl) (by kernel_rfl) (by kernel_rfl) (by simp) h
noncomputable def hk19 := And.intro (@o19_0_eq) <| And.intro (@o19_1_eq) <| And.intro (@c19_1_s) <| @c19_s
-- K19: ↓hk19
/-! ### (*vouch/table.Table) . Clone -/
def V20 : Nat → Bool := fun i => [0, 2, 3, 5, 7, 10, 11, 12, 13].elem i
noncomputable def c20 : Code := (Try.f20.body.getD .skip)
noncomputable def o20_0 : Array Oper := rO (cL c20)
noncomputable def c20_1 : Code := (cR c20)
noncomputable def c20_2 : Code := (cR c20_1)
noncomputable def o20_3 : Array Oper := rO (cL c20_2)
noncomputable def c20_3 : Code := (cR c20_2)
noncomputable def c20_4 : Code := (cR c20_3)
noncomputable def o20_9 : Array Oper := rO (cL c20_4)
noncomputable def c20_5 : Code := (cL c20_3)
noncomputable def o20_4 : Array Oper := rO (cL c20_5)
noncomputable def c20_6 : Code := (cR c20_5)
noncomputable def c20_7 : Code := (cL c20_6)
noncomputable def c20_8 : Code := (cL c20_7)
noncomputable def o20_5 : Array Oper := rO (cL c20_8)
noncomputable def c20_9 : Code := (cR c20_8)
noncomputable def c20_10 : Code := (cR c20_9)
noncomputable def c20_11 : Code := (cR c20_10)
noncomputable def o20_8 : Array Oper := rO c20_11
noncomputable def c20_12 : Code := (cL c20_10)
noncomputable def c20_13 : Code := (cL c20_12)
noncomputable def o20_6 : Array Oper := rO (cL c20_13)
noncomputable def c20_14 : Code := (cR c20_13)
noncomputable def o20_7 : Array Oper := rO c20_14
noncomputable def c20_15 : Code := (cL c20_9)
noncomputable def c20_16 : Code := (cL c20_1)
noncomputable def o20_1 : Array Oper := rO (cL c20_16)
noncomputable def c20_17 : Code := (cR c20_16)
noncomputable def c20_18 : Code := (cL c20_17)
noncomputable def o20_2 : Array Oper := rO (cL c20_18)
theorem o20_0_eq : opsW N M G 21 V20 o20_0 k o20_0.toList [] e e w =
    (M (Value.pointer none) fun t2 =>
    k (Env.p e 2 t2) w) := nr (by kernel_rfl)
theorem o20_3_eq : opsW N M G 21 V20 o20_3 k o20_3.toList [] e e w =
    (N (xcall (Value.func (Fn.func 8) #[] #[]) []) w fun t8 w =>
    M t8 fun t3 =>
    k (Env.p e 3 t3) w) := nr (by kernel_rfl)
theorem o20_9_eq : opsW N M G 21 V20 o20_9 k o20_9.toList [] e e w =
    (M (e 3) fun t20 =>
    M t20 fun t2 =>
    k (Env.p e 2 t2) w) := nr (by kernel_rfl)
theorem c20_4_s (hw : Cur w) : W3 Try.prog 21 V20 c20_4 Q e w = (opsW (nx Try.prog) mv gdP 21 V20 o20_9 (fun e w => Q .ret e w) o20_9.toList [] e e w) := by rw [(by kernel_rfl : c20_4 = .seq (.region 9 o20_9 false) Code.ret), W3_seq_reg]; simp only [W3_ret, W3_skip, W3_exit, W3_label]
theorem o20_4_eq : opsW N M G 21 V20 o20_4 k o20_4.toList [] e e w =
    (M (e 0) fun t9 =>
    N (xcall (Value.func (Fn.func 14) #[] #[]) [t9]) w fun t10 w =>
    N (builtin Builtin.len #[27] 3 ([false]).toArray ([t10]).toArray) w fun t11 w =>
    M (Value.int IntKind.i64 0) fun t12 =>
    k (Env.p (Env.p (Env.p e 10 t10) 11 t11) 12 t12) w) := nr (by kernel_rfl)
theorem o20_5_eq : opsW N M G 21 V20 o20_5 k o20_5.toList [] e e w =
    (N (xv (xbin BinOp.lss 3 (Operand.tmp 12) (Operand.tmp 11) (e 12) (e 11))) w fun t13 w =>
    k (Env.p e 13 t13) w) := nr (by kernel_rfl)
theorem o20_8_eq : opsW N M G 21 V20 o20_8 k o20_8.toList [] e e w =
    (N (xv (xbin BinOp.add 3 (Operand.tmp 12) (Operand.const (Value.int IntKind.i64 1)) (e 12) (Value.int IntKind.i64 1))) w fun t19 w =>
    M t19 fun t12 =>
    k (Env.p e 12 t12) w) := nr (by kernel_rfl)
theorem c20_11_s (hw : Cur w) : W3 Try.prog 21 V20 c20_11 Q e w = (opsW (nx Try.prog) mv gdP 21 V20 o20_8 (fun e w => Q .normal e w) o20_8.toList [] e e w) := by rw [(by kernel_rfl : c20_11 = (.region 8 o20_8 false)), W3_reg]
theorem o20_6_eq : opsW N M G 21 V20 o20_6 k o20_6.toList [] e e w =
    (N (xv (Instr.indexAt 27 (e 10) (e 12))) w fun t14 w =>
    N (xv (Instr.loadAt 36 t14)) w fun t15 w =>
    N (xv (Instr.alloc 36 true (.tuple #[]))) w fun t5 w =>
    N (xu (Instr.storeAt 36 t5 t15)) w fun _ w =>
    k (Env.p e 5 t5) w) := nr (by kernel_rfl)
theorem o20_7_eq : opsW N M G 21 V20 o20_7 k o20_7.toList [] e e w =
    (M (e 3) fun t16 =>
    N (xv (Instr.loadAt 36 (e 5))) w fun t17 w =>
    N (xcall (Value.func (Fn.func 15) #[] #[]) [t16, t17]) w fun t18 w =>
    k e w) := nr (by kernel_rfl)
theorem c20_14_s (hw : Cur w) : W3 Try.prog 21 V20 c20_14 Q e w = (opsW (nx Try.prog) mv gdP 21 V20 o20_7 (fun e w => Q .normal e w) o20_7.toList [] e e w) := by rw [(by kernel_rfl : c20_14 = (.region 7 o20_7 false)), W3_reg]
theorem c20_13_s (hw : Cur w) : W3 Try.prog 21 V20 c20_13 Q e w = (opsW (nx Try.prog) mv gdP 21 V20 o20_6 (fun e w => W3 Try.prog 21 V20 c20_14 Q e w) o20_6.toList [] e e w) := by rw [(by kernel_rfl : c20_13 = .seq (.region 6 o20_6 false) c20_14), W3_seq_reg]
theorem c20_12_s (hw : Cur w) : W3 Try.prog 21 V20 c20_12 Q e w = (W3 Try.prog 21 V20 c20_13 (blockQ 1 Q) e w) := by rw [(by kernel_rfl : c20_12 = .block 1 c20_13), W3_block]
theorem c20_10_s (hw : Cur w) : W3 Try.prog 21 V20 c20_10 Q e w = (W3 Try.prog 21 V20 c20_12 (seqQ (fun e w => W3 Try.prog 21 V20 c20_11 Q e w) Q) e w) := by rw [(by kernel_rfl : c20_10 = .seq c20_12 c20_11), W3_seq]
theorem c20_15_v : opV V20 (.tmp 13) = true := by kernel_rfl
theorem c20_15_s (hw : Cur w) : W3 Try.prog 21 V20 c20_15 Q e w = (condP (ev e (.tmp 13)) (Q .normal e w) (Q (.exit 0) e w)) := by rw [(by kernel_rfl : c20_15 = .cond (.tmp 13) Code.skip (Code.exit 0)), W3_cond, c20_15_v, cond_true]; simp only [W3_ret, W3_skip, W3_exit, W3_label]
theorem c20_9_s (hw : Cur w) : W3 Try.prog 21 V20 c20_9 Q e w = (W3 Try.prog 21 V20 c20_15 (seqQ (fun e w => W3 Try.prog 21 V20 c20_10 Q e w) Q) e w) := by rw [(by kernel_rfl : c20_9 = .seq c20_15 c20_10), W3_seq]
theorem c20_8_s (hw : Cur w) : W3 Try.prog 21 V20 c20_8 Q e w = (opsW (nx Try.prog) mv gdP 21 V20 o20_5 (fun e w => W3 Try.prog 21 V20 c20_9 Q e w) o20_5.toList [] e e w) := by rw [(by kernel_rfl : c20_8 = .seq (.region 5 o20_5 false) c20_9), W3_seq_reg]
theorem c20_7_s (hw : Cur w) : W3 Try.prog 21 V20 c20_7 Q e w = (LoopP (fun e w k => W3 Try.prog 21 V20 c20_8 (seqQ k Q) e w) e w) := by rw [(by kernel_rfl : c20_7 = .loop c20_8), W3_loop]
theorem c20_6_s (hw : Cur w) : W3 Try.prog 21 V20 c20_6 Q e w = (W3 Try.prog 21 V20 c20_7 (blockQ 0 Q) e w) := by rw [(by kernel_rfl : c20_6 = .block 0 c20_7), W3_block]
theorem c20_5_s (hw : Cur w) : W3 Try.prog 21 V20 c20_5 Q e w = (opsW (nx Try.prog) mv gdP 21 V20 o20_4 (fun e w => W3 Try.prog 21 V20 c20_6 Q e w) o20_4.toList [] e e w) := by rw [(by kernel_rfl : c20_5 = .seq (.region 4 o20_4 false) c20_6), W3_seq_reg]
theorem c20_3_s (hw : Cur w) : W3 Try.prog 21 V20 c20_3 Q e w = (W3 Try.prog 21 V20 c20_5 (seqQ (fun e w => W3 Try.prog 21 V20 c20_4 Q e w) Q) e w) := by rw [(by kernel_rfl : c20_3 = .seq c20_5 c20_4), W3_seq]
theorem c20_2_s (hw : Cur w) : W3 Try.prog 21 V20 c20_2 Q e w = (opsW (nx Try.prog) mv gdP 21 V20 o20_3 (fun e w => W3 Try.prog 21 V20 c20_3 Q e w) o20_3.toList [] e e w) := by rw [(by kernel_rfl : c20_2 = .seq (.region 3 o20_3 false) c20_3), W3_seq_reg]
theorem o20_1_eq : opsW N M G 21 V20 o20_1 k o20_1.toList [] e e w =
    (M (e 0) fun t6 =>
    N (xv (xbin BinOp.eql 24 (Operand.tmp 6) (Operand.const (Value.pointer none)) t6 (Value.pointer none))) w fun t7 w =>
    k (Env.p e 7 t7) w) := nr (by kernel_rfl)
theorem o20_2_eq : opsW N M G 21 V20 o20_2 k o20_2.toList [] e e w =
    (M (Value.pointer none) fun t2 =>
    k (Env.p e 2 t2) w) := nr (by kernel_rfl)
theorem c20_18_s (hw : Cur w) : W3 Try.prog 21 V20 c20_18 Q e w = (opsW (nx Try.prog) mv gdP 21 V20 o20_2 (fun e w => Q .ret e w) o20_2.toList [] e e w) := by rw [(by kernel_rfl : c20_18 = .seq (.region 2 o20_2 false) Code.ret), W3_seq_reg]; simp only [W3_ret, W3_skip, W3_exit, W3_label]
theorem c20_17_v : opV V20 (.tmp 7) = true := by kernel_rfl
theorem c20_17_s (hw : Cur w) : W3 Try.prog 21 V20 c20_17 Q e w = (condP (ev e (.tmp 7)) (W3 Try.prog 21 V20 c20_18 Q e w) (Q .normal e w)) := by rw [(by kernel_rfl : c20_17 = .cond (.tmp 7) c20_18 Code.skip), W3_cond, c20_17_v, cond_true]; simp only [W3_ret, W3_skip, W3_exit, W3_label]
theorem c20_16_s (hw : Cur w) : W3 Try.prog 21 V20 c20_16 Q e w = (opsW (nx Try.prog) mv gdP 21 V20 o20_1 (fun e w => W3 Try.prog 21 V20 c20_17 Q e w) o20_1.toList [] e e w) := by rw [(by kernel_rfl : c20_16 = .seq (.region 1 o20_1 false) c20_17), W3_seq_reg]
theorem c20_1_s (hw : Cur w) : W3 Try.prog 21 V20 c20_1 Q e w = (W3 Try.prog 21 V20 c20_16 (seqQ (fun e w => W3 Try.prog 21 V20 c20_2 Q e w) Q) e w) := by rw [(by kernel_rfl : c20_1 = .seq c20_16 c20_2), W3_seq]
theorem c20_s (hw : Cur w) : W3 Try.prog 21 V20 c20 Q e w = (opsW (nx Try.prog) mv gdP 21 V20 o20_0 (fun e w => W3 Try.prog 21 V20 c20_1 Q e w) o20_0.toList [] e e w) := by rw [(by kernel_rfl : c20 = .seq (.region 0 o20_0 false) c20_1), W3_seq_reg]
theorem call20 {a0 : Value} {w : World} {R : Value → World → Prop} (h : W3 Try.prog 21 V20 c20 (retQ Try.prog [.tmp 2] R) (argE [a0]) w) : CallsN Try.prog 20 [a0] w R :=
  callsN_of_W3 (c := c20) (rs := [.tmp 2]) V20 Try.ntmps20 (by rw [Try.results20]) mixed Try.func20 (by kernel_rfl) (by kernel_rfl) (by kernel_rfl) (by kernel_rfl) (by simp) h
noncomputable def hk20 := And.intro (@o20_0_eq) <| And.intro (@o20_3_eq) <| And.intro (@o20_9_eq) <| And.intro (@c20_4_s) <| And.intro (@o20_4_eq) <| And.intro (@o20_5_eq) <| And.intro (@o20_8_eq) <| And.intro (@c20_11_s) <| And.intro (@o20_6_eq) <| And.intro (@o20_7_eq) <| And.intro (@c20_14_s) <| And.intro (@c20_13_s) <| And.intro (@c20_12_s) <| And.intro (@c20_10_s) <| And.intro (@c20_15_s) <| And.intro (@c20_9_s) <| And.intro (@c20_8_s) <| And.intro (@c20_7_s) <| And.intro (@c20_6_s) <| And.intro (@c20_5_s) <| And.intro (@c20_3_s) <| And.intro (@c20_2_s) <| And.intro (@o20_1_eq) <| And.intro (@o20_2_eq) <| And.intro (@c20_18_s) <| And.intro (@c20_17_s) <| And.intro (@c20_16_s) <| And.intro (@c20_1_s) <| @c20_s
-- K20: ↓hk20
/-! ### vouch/fact.Good -/
def V30 : Nat → Bool := fun i => [0, 1, 2, 3, 13].elem i
noncomputable def c30 : Code := (Try.f30.body.getD .skip)
noncomputable def o30_0 : Array Oper := rO (cL c30)
noncomputable def c30_1 : Code := (cR c30)
noncomputable def c30_2 : Code := (cR c30_1)
noncomputable def o30_5 : Array Oper := rO (cL c30_2)
noncomputable def c30_3 : Code := (cL c30_1)
noncomputable def c30_4 : Code := (cL c30_3)
noncomputable def o30_1 : Array Oper := rO (cL c30_4)
noncomputable def c30_5 : Code := (cR c30_4)
noncomputable def c30_6 : Code := (cL c30_5)
noncomputable def o30_2 : Array Oper := rO (cL c30_6)
noncomputable def c30_7 : Code := (cR c30_5)
noncomputable def o30_3 : Array Oper := rO (cL c30_7)
noncomputable def c30_8 : Code := (cR c30_7)
noncomputable def c30_9 : Code := (cL c30_8)
noncomputable def o30_4 : Array Oper := rO (cL c30_9)
theorem o30_0_eq : opsW N M G 56 V30 o30_0 k o30_0.toList [] e e w =
    (N (xv (Instr.box 34 (e 0))) w fun t1 w =>
    M (Value.bool false) fun t2 =>
    k (Env.p (Env.p e 1 t1) 2 t2) w) := nr (by kernel_rfl)
theorem o30_5_eq : opsW N M G 56 V30 o30_5 k o30_5.toList [] e e w =
    (N (xv (Instr.fieldAt 34 (e 1) 2)) w fun t31 w =>
    N (xv (Instr.loadAt 2 t31)) w fun t32 w =>
    N (xv (xbin BinOp.geq 2 (Operand.tmp 32) (Operand.const (Value.int IntKind.i64 0)) t32 (Value.int IntKind.i64 0))) w fun t33 w =>
    M t33 fun t34 =>
    G (isB t34 true) (fun K => N (xv (Instr.fieldAt 34 (e 1) 2)) w K) (fun t35 w =>
    G (isB t34 true) (fun K => N (xv (Instr.loadAt 2 t35)) w K) (fun t36 w =>
    G (isB t34 true) (fun K => N (xv (xbin BinOp.leq 2 (Operand.tmp 36) (Operand.const (Value.int IntKind.i64 1099511627776)) t36 (Value.int IntKind.i64 1099511627776))) w K) (fun t37 w =>
    N (xpick t34 t37 (Value.bool false)) w fun t38 w =>
    M t38 fun t39 =>
    G (isB t39 true) (fun K => N (xv (Instr.fieldAt 34 (e 1) 3)) w K) (fun t40 w =>
    G (isB t39 true) (fun K => N (xv (Instr.loadAt 2 t40)) w K) (fun t41 w =>
    G (isB t39 true) (fun K => N (xv (Instr.fieldAt 34 (e 1) 2)) w K) (fun t42 w =>
    G (isB t39 true) (fun K => N (xv (Instr.loadAt 2 t42)) w K) (fun t43 w =>
    G (isB t39 true) (fun K => N (xv (xbin BinOp.gtr 2 (Operand.tmp 41) (Operand.tmp 43) t41 t43)) w K) (fun t44 w =>
    N (xpick t39 t44 (Value.bool false)) w fun t45 w =>
    M t45 fun t46 =>
    G (isB t46 true) (fun K => N (xv (Instr.fieldAt 34 (e 1) 3)) w K) (fun t47 w =>
    G (isB t46 true) (fun K => N (xv (Instr.loadAt 2 t47)) w K) (fun t48 w =>
    G (isB t46 true) (fun K => N (xv (xbin BinOp.eql 2 (Operand.tmp 48) (Operand.const (Value.int IntKind.i64 4611686018427387904)) t48 (Value.int IntKind.i64 4611686018427387904))) w K) (fun t49 w =>
    G (isB t46 true) (fun K => M t49 fun v => K v w) (fun t50 w =>
    G (isB t50 false) (fun K => N (xv (Instr.fieldAt 34 (e 1) 3)) w K) (fun t51 w =>
    G (isB t50 false) (fun K => N (xv (Instr.loadAt 2 t51)) w K) (fun t52 w =>
    G (isB t50 false) (fun K => N (xv (xbin BinOp.leq 2 (Operand.tmp 52) (Operand.const (Value.int IntKind.i64 1099511627777)) t52 (Value.int IntKind.i64 1099511627777))) w K) (fun t53 w =>
    G (isB t46 true) (fun K => N (xpick t50 (Value.bool true) t53) w K) (fun t54 w =>
    N (xpick t46 t54 (Value.bool false)) w fun t55 w =>
    M t55 fun t2 =>
    k (Env.p e 2 t2) w) w) w) w) w) w) w) w) w) w) w) w) w) w) w) w) w) := nr (by kernel_rfl)
theorem c30_2_s (hw : Cur w) : W3 Try.prog 56 V30 c30_2 Q e w = (opsW (nx Try.prog) mv gdP 56 V30 o30_5 (fun e w => Q .ret e w) o30_5.toList [] e e w) := by rw [(by kernel_rfl : c30_2 = .seq (.region 5 o30_5 false) Code.ret), W3_seq_reg]; simp only [W3_ret, W3_skip, W3_exit, W3_label]
theorem o30_1_eq : opsW N M G 56 V30 o30_1 k o30_1.toList [] e e w =
    (N (xv (Instr.fieldAt 34 (e 1) 0)) w fun t4 w =>
    N (xv (Instr.loadAt 9 t4)) w fun t5 w =>
    N (xv (xbin BinOp.eql 9 (Operand.tmp 5) (Operand.const (Value.string ⟨#[]⟩)) t5 (Value.string ⟨#[]⟩))) w fun t6 w =>
    M t6 fun t7 =>
    G (isB t7 false) (fun K => N (xv (Instr.fieldAt 34 (e 1) 0)) w K) (fun t8 w =>
    G (isB t7 false) (fun K => N (xv (Instr.loadAt 9 t8)) w K) (fun t9 w =>
    G (isB t7 false) (fun K => N (builtin Builtin.len #[9] 3 ([false]).toArray ([t9]).toArray) w K) (fun t10 w =>
    G (isB t7 false) (fun K => N (xv (xbin BinOp.gtr 3 (Operand.tmp 10) (Operand.const (Value.int IntKind.i64 32)) t10 (Value.int IntKind.i64 32))) w K) (fun t11 w =>
    N (xpick t7 (Value.bool true) t11) w fun t12 w =>
    M t12 fun t3 =>
    k (Env.p e 3 t3) w) w) w) w) w) := nr (by kernel_rfl)
theorem o30_2_eq : opsW N M G 56 V30 o30_2 k o30_2.toList [] e e w =
    (M (Value.bool false) fun t2 =>
    k (Env.p e 2 t2) w) := nr (by kernel_rfl)
theorem c30_6_s (hw : Cur w) : W3 Try.prog 56 V30 c30_6 Q e w = (opsW (nx Try.prog) mv gdP 56 V30 o30_2 (fun e w => Q .ret e w) o30_2.toList [] e e w) := by rw [(by kernel_rfl : c30_6 = .seq (.region 2 o30_2 false) Code.ret), W3_seq_reg]; simp only [W3_ret, W3_skip, W3_exit, W3_label]
theorem o30_3_eq : opsW N M G 56 V30 o30_3 k o30_3.toList [] e e w =
    (N (xv (Instr.fieldAt 34 (e 1) 1)) w fun t14 w =>
    N (xv (Instr.fieldAt 32 t14 1)) w fun t15 w =>
    N (xv (Instr.loadAt 9 t15)) w fun t16 w =>
    N (builtin Builtin.len #[9] 3 ([false]).toArray ([t16]).toArray) w fun t17 w =>
    N (xv (xbin BinOp.gtr 3 (Operand.tmp 17) (Operand.const (Value.int IntKind.i64 256)) t17 (Value.int IntKind.i64 256))) w fun t18 w =>
    M t18 fun t19 =>
    G (isB t19 false) (fun K => N (xv (Instr.fieldAt 34 (e 1) 1)) w K) (fun t20 w =>
    G (isB t19 false) (fun K => N (xv (Instr.fieldAt 32 t20 0)) w K) (fun t21 w =>
    G (isB t19 false) (fun K => N (xv (Instr.loadAt 4 t21)) w K) (fun t22 w =>
    G (isB t19 false) (fun K => N (xv (Op.unary UnOp.not t22)) w K) (fun t23 w =>
    G (isB t19 false) (fun K => M t23 fun v => K v w) (fun t24 w =>
    G (isB t24 true) (fun K => N (xv (Instr.fieldAt 34 (e 1) 1)) w K) (fun t25 w =>
    G (isB t24 true) (fun K => N (xv (Instr.fieldAt 32 t25 1)) w K) (fun t26 w =>
    G (isB t24 true) (fun K => N (xv (Instr.loadAt 9 t26)) w K) (fun t27 w =>
    G (isB t24 true) (fun K => N (xv (xbin BinOp.neq 9 (Operand.tmp 27) (Operand.const (Value.string ⟨#[]⟩)) t27 (Value.string ⟨#[]⟩))) w K) (fun t28 w =>
    G (isB t19 false) (fun K => N (xpick t24 t28 (Value.bool false)) w K) (fun t29 w =>
    N (xpick t19 (Value.bool true) t29) w fun t30 w =>
    M t30 fun t13 =>
    k (Env.p e 13 t13) w) w) w) w) w) w) w) w) w) w) w) := nr (by kernel_rfl)
theorem o30_4_eq : opsW N M G 56 V30 o30_4 k o30_4.toList [] e e w =
    (M (Value.bool false) fun t2 =>
    k (Env.p e 2 t2) w) := nr (by kernel_rfl)
theorem c30_9_s (hw : Cur w) : W3 Try.prog 56 V30 c30_9 Q e w = (opsW (nx Try.prog) mv gdP 56 V30 o30_4 (fun e w => Q .ret e w) o30_4.toList [] e e w) := by rw [(by kernel_rfl : c30_9 = .seq (.region 4 o30_4 false) Code.ret), W3_seq_reg]; simp only [W3_ret, W3_skip, W3_exit, W3_label]
theorem c30_8_v : opV V30 (.tmp 13) = true := by kernel_rfl
theorem c30_8_s (hw : Cur w) : W3 Try.prog 56 V30 c30_8 Q e w = (condP (ev e (.tmp 13)) (W3 Try.prog 56 V30 c30_9 Q e w) (Q .normal e w)) := by rw [(by kernel_rfl : c30_8 = .cond (.tmp 13) c30_9 Code.skip), W3_cond, c30_8_v, cond_true]; simp only [W3_ret, W3_skip, W3_exit, W3_label]
theorem c30_7_s (hw : Cur w) : W3 Try.prog 56 V30 c30_7 Q e w = (opsW (nx Try.prog) mv gdP 56 V30 o30_3 (fun e w => W3 Try.prog 56 V30 c30_8 Q e w) o30_3.toList [] e e w) := by rw [(by kernel_rfl : c30_7 = .seq (.region 3 o30_3 false) c30_8), W3_seq_reg]
theorem c30_5_v : opV V30 (.tmp 3) = true := by kernel_rfl
theorem c30_5_s (hw : Cur w) : W3 Try.prog 56 V30 c30_5 Q e w = (condP (ev e (.tmp 3)) (W3 Try.prog 56 V30 c30_6 Q e w) (W3 Try.prog 56 V30 c30_7 Q e w)) := by rw [(by kernel_rfl : c30_5 = .cond (.tmp 3) c30_6 c30_7), W3_cond, c30_5_v, cond_true]
theorem c30_4_s (hw : Cur w) : W3 Try.prog 56 V30 c30_4 Q e w = (opsW (nx Try.prog) mv gdP 56 V30 o30_1 (fun e w => W3 Try.prog 56 V30 c30_5 Q e w) o30_1.toList [] e e w) := by rw [(by kernel_rfl : c30_4 = .seq (.region 1 o30_1 false) c30_5), W3_seq_reg]
theorem c30_3_s (hw : Cur w) : W3 Try.prog 56 V30 c30_3 Q e w = (W3 Try.prog 56 V30 c30_4 (blockQ 0 Q) e w) := by rw [(by kernel_rfl : c30_3 = .block 0 c30_4), W3_block]
theorem c30_1_s (hw : Cur w) : W3 Try.prog 56 V30 c30_1 Q e w = (W3 Try.prog 56 V30 c30_3 (seqQ (fun e w => W3 Try.prog 56 V30 c30_2 Q e w) Q) e w) := by rw [(by kernel_rfl : c30_1 = .seq c30_3 c30_2), W3_seq]
theorem c30_s (hw : Cur w) : W3 Try.prog 56 V30 c30 Q e w = (opsW (nx Try.prog) mv gdP 56 V30 o30_0 (fun e w => W3 Try.prog 56 V30 c30_1 Q e w) o30_0.toList [] e e w) := by rw [(by kernel_rfl : c30 = .seq (.region 0 o30_0 false) c30_1), W3_seq_reg]
theorem call30 {a0 : Value} {w : World} {R : Value → World → Prop} (h : W3 Try.prog 56 V30 c30 (retQ Try.prog [.tmp 2] R) (argE [a0]) w) : CallsN Try.prog 30 [a0] w R :=
  callsN_of_W3 (c := c30) (rs := [.tmp 2]) V30 Try.ntmps30 (by rw [Try.results30]) mixed Try.func30 (by kernel_rfl) (by kernel_rfl) (by kernel_rfl) (by kernel_rfl) (by simp) h
noncomputable def hk30 := And.intro (@o30_0_eq) <| And.intro (@o30_5_eq) <| And.intro (@c30_2_s) <| And.intro (@o30_1_eq) <| And.intro (@o30_2_eq) <| And.intro (@c30_6_s) <| And.intro (@o30_3_eq) <| And.intro (@o30_4_eq) <| And.intro (@c30_9_s) <| And.intro (@c30_8_s) <| And.intro (@c30_7_s) <| And.intro (@c30_5_s) <| And.intro (@c30_4_s) <| And.intro (@c30_3_s) <| And.intro (@c30_1_s) <| @c30_s
-- K30: ↓hk30
/-! ### (*vouch/table.Table) . find -/
def V31 : Nat → Bool := fun i => [0, 1, 2, 6, 7].elem i
noncomputable def c31 : Code := (Try.f31.body.getD .skip)
noncomputable def o31_0 : Array Oper := rO (cL c31)
noncomputable def c31_1 : Code := (cR c31)
noncomputable def o31_1 : Array Oper := rO (cL c31_1)
theorem o31_0_eq : opsW N M G 15 V31 o31_0 k o31_0.toList [] e e w =
    (M (Value.int IntKind.i64 0) fun t6 =>
    M (Value.bool false) fun t7 =>
    k (Env.p (Env.p e 6 t6) 7 t7) w) := nr (by kernel_rfl)
theorem o31_1_eq : opsW N M G 15 V31 o31_1 k o31_1.toList [] e e w =
    (M (e 0) fun t8 =>
    M (e 1) fun t9 =>
    N (xcall (Value.func (Fn.func 34) #[] #[]) [t8, t9]) w fun t10 w =>
    M (e 2) fun t11 =>
    N (xcall (Value.func (Fn.func 44) #[] #[]) [t10, t11, (Value.func (Fn.func 45) #[] #[])]) w fun t12 w =>
    N (xv (Instr.extract t12 0)) w fun t13 w =>
    N (xv (Instr.extract t12 1)) w fun t14 w =>
    M t13 fun t6 =>
    M t14 fun t7 =>
    k (Env.p (Env.p e 6 t6) 7 t7) w) := nr (by kernel_rfl)
theorem c31_1_s (hw : Cur w) : W3 Try.prog 15 V31 c31_1 Q e w = (opsW (nx Try.prog) mv gdP 15 V31 o31_1 (fun e w => Q .ret e w) o31_1.toList [] e e w) := by rw [(by kernel_rfl : c31_1 = .seq (.region 1 o31_1 false) Code.ret), W3_seq_reg]; simp only [W3_ret, W3_skip, W3_exit, W3_label]
theorem c31_s (hw : Cur w) : W3 Try.prog 15 V31 c31 Q e w = (opsW (nx Try.prog) mv gdP 15 V31 o31_0 (fun e w => W3 Try.prog 15 V31 c31_1 Q e w) o31_0.toList [] e e w) := by rw [(by kernel_rfl : c31 = .seq (.region 0 o31_0 false) c31_1), W3_seq_reg]
theorem call31 {a0 a1 a2 : Value} {w : World} {R : Value → World → Prop} (h : W3 Try.prog 15 V31 c31 (retQ Try.prog [.tmp 6, .tmp 7] R) (argE [a0, a1, a2]) w) : CallsN Try.prog 31 [a0, a1, a2] w R :=
  callsN_of_W3 (c := c31) (rs := [.tmp 6, .tmp 7]) V31 Try.ntmps31 (by rw [Try.results31]) mixed Try.func31 (by kernel_rfl) (by kernel_rfl) (by kernel_rfl) (by kernel_rfl) (by simp) h
noncomputable def hk31 := And.intro (@o31_0_eq) <| And.intro (@o31_1_eq) <| And.intro (@c31_1_s) <| @c31_s
-- K31: ↓hk31
/-! ### slices.Insert[[]vouch/api.Entry,vouch/api.Entry] -/
def V32 : Nat → Bool := fun i => [0, 1, 2, 6, 7, 8, 9, 16, 22, 31, 68].elem i
noncomputable def c32 : Code := (Try.f32.body.getD .skip)
noncomputable def o32_0 : Array Oper := rO (cL c32)
noncomputable def c32_1 : Code := (cR c32)
noncomputable def o32_1 : Array Oper := rO (cL c32_1)
noncomputable def c32_2 : Code := (cR c32_1)
noncomputable def o32_2 : Array Oper := rO (cL c32_2)
noncomputable def c32_3 : Code := (cR c32_2)
noncomputable def c32_4 : Code := (cR c32_3)
noncomputable def o32_5 : Array Oper := rO (cL c32_4)
noncomputable def c32_5 : Code := (cR c32_4)
noncomputable def c32_6 : Code := (cR c32_5)
noncomputable def c32_7 : Code := (cR c32_6)
noncomputable def o32_13 : Array Oper := rO (cL c32_7)
noncomputable def c32_8 : Code := (cR c32_7)
noncomputable def c32_9 : Code := (cR c32_8)
noncomputable def o32_18 : Array Oper := rO (cL c32_9)
noncomputable def c32_10 : Code := (cR c32_9)
noncomputable def o32_19 : Array Oper := rO (cL c32_10)
noncomputable def c32_11 : Code := (cR c32_10)
noncomputable def o32_20 : Array Oper := rO (cL c32_11)
noncomputable def c32_12 : Code := (cL c32_8)
noncomputable def o32_14 : Array Oper := rO (cL c32_12)
noncomputable def c32_13 : Code := (cR c32_12)
noncomputable def c32_14 : Code := (cL c32_13)
noncomputable def o32_15 : Array Oper := rO (cL c32_14)
noncomputable def c32_15 : Code := (cR c32_14)
noncomputable def o32_16 : Array Oper := rO (cL c32_15)
noncomputable def c32_16 : Code := (cR c32_15)
noncomputable def o32_17 : Array Oper := rO (cL c32_16)
noncomputable def c32_17 : Code := (cL c32_6)
noncomputable def o32_8 : Array Oper := rO (cL c32_17)
noncomputable def c32_18 : Code := (cR c32_17)
noncomputable def c32_19 : Code := (cL c32_18)
noncomputable def o32_9 : Array Oper := rO (cL c32_19)
noncomputable def c32_20 : Code := (cR c32_19)
noncomputable def o32_10 : Array Oper := rO (cL c32_20)
noncomputable def c32_21 : Code := (cR c32_20)
noncomputable def o32_11 : Array Oper := rO (cL c32_21)
noncomputable def c32_22 : Code := (cR c32_21)
noncomputable def o32_12 : Array Oper := rO (cL c32_22)
noncomputable def c32_23 : Code := (cL c32_5)
noncomputable def o32_6 : Array Oper := rO (cL c32_23)
noncomputable def c32_24 : Code := (cR c32_23)
noncomputable def c32_25 : Code := (cL c32_24)
noncomputable def o32_7 : Array Oper := rO (cL c32_25)
noncomputable def c32_26 : Code := (cL c32_3)
noncomputable def o32_3 : Array Oper := rO (cL c32_26)
noncomputable def c32_27 : Code := (cR c32_26)
noncomputable def c32_28 : Code := (cL c32_27)
noncomputable def o32_4 : Array Oper := rO (cL c32_28)
theorem o32_0_eq : opsW N M G 95 V32 o32_0 k o32_0.toList [] e e w =
    (M (Value.slice none 0 0) fun t6 =>
    k (Env.p e 6 t6) w) := nr (by kernel_rfl)
theorem o32_1_eq : opsW N M G 95 V32 o32_1 k o32_1.toList [] e e w =
    (M (e 0) fun t10 =>
    M (e 1) fun t11 =>
    N (xv (Instr.sliceAt 27 t10 (some t11) none none)) w fun t12 w =>
    k e w) := nr (by kernel_rfl)
theorem o32_2_eq : opsW N M G 95 V32 o32_2 k o32_2.toList [] e e w =
    (M (e 2) fun t13 =>
    N (builtin Builtin.len #[27] 3 ([false]).toArray ([t13]).toArray) w fun t14 w =>
    M t14 fun t7 =>
    k (Env.p e 7 t7) w) := nr (by kernel_rfl)
theorem o32_5_eq : opsW N M G 95 V32 o32_5 k o32_5.toList [] e e w =
    (M (e 0) fun t18 =>
    N (builtin Builtin.len #[27] 3 ([false]).toArray ([t18]).toArray) w fun t19 w =>
    M t19 fun t8 =>
    k (Env.p e 8 t8) w) := nr (by kernel_rfl)
theorem o32_13_eq : opsW N M G 95 V32 o32_13 k o32_13.toList [] e e w =
    (M (e 0) fun t56 =>
    M (e 8) fun t57 =>
    M (e 7) fun t58 =>
    N (xv (xbin BinOp.add 3 (Operand.tmp 57) (Operand.tmp 58) t57 t58)) w fun t59 w =>
    N (xv (Instr.sliceAt 27 t56 none (some t59) none)) w fun t60 w =>
    M t60 fun t0 =>
    k (Env.p e 0 t0) w) := nr (by kernel_rfl)
theorem o32_18_eq : opsW N M G 95 V32 o32_18 k o32_18.toList [] e e w =
    (M (e 0) fun t84 =>
    M (e 8) fun t85 =>
    N (xv (Instr.sliceAt 27 t84 (some t85) none none)) w fun t86 w =>
    M (e 2) fun t87 =>
    N (builtin Builtin.copy #[27, 27] 3 ([false, false]).toArray ([t86, t87]).toArray) w fun t88 w =>
    k e w) := nr (by kernel_rfl)
theorem o32_19_eq : opsW N M G 95 V32 o32_19 k o32_19.toList [] e e w =
    (M (e 0) fun t89 =>
    M (e 1) fun t90 =>
    N (xv (Instr.sliceAt 27 t89 (some t90) none none)) w fun t91 w =>
    M (e 7) fun t92 =>
    N (xcall (Value.func (Fn.func 48) #[] #[]) [t91, t92]) w fun t93 w =>
    k e w) := nr (by kernel_rfl)
theorem o32_20_eq : opsW N M G 95 V32 o32_20 k o32_20.toList [] e e w =
    (M (e 0) fun t94 =>
    M t94 fun t6 =>
    k (Env.p e 6 t6) w) := nr (by kernel_rfl)
theorem c32_11_s (hw : Cur w) : W3 Try.prog 95 V32 c32_11 Q e w = (opsW (nx Try.prog) mv gdP 95 V32 o32_20 (fun e w => Q .ret e w) o32_20.toList [] e e w) := by rw [(by kernel_rfl : c32_11 = .seq (.region 20 o32_20 false) Code.ret), W3_seq_reg]; simp only [W3_ret, W3_skip, W3_exit, W3_label]
theorem c32_10_s (hw : Cur w) : W3 Try.prog 95 V32 c32_10 Q e w = (opsW (nx Try.prog) mv gdP 95 V32 o32_19 (fun e w => W3 Try.prog 95 V32 c32_11 Q e w) o32_19.toList [] e e w) := by rw [(by kernel_rfl : c32_10 = .seq (.region 19 o32_19 false) c32_11), W3_seq_reg]
theorem c32_9_s (hw : Cur w) : W3 Try.prog 95 V32 c32_9 Q e w = (opsW (nx Try.prog) mv gdP 95 V32 o32_18 (fun e w => W3 Try.prog 95 V32 c32_10 Q e w) o32_18.toList [] e e w) := by rw [(by kernel_rfl : c32_9 = .seq (.region 18 o32_18 false) c32_10), W3_seq_reg]
theorem o32_14_eq : opsW N M G 95 V32 o32_14 k o32_14.toList [] e e w =
    (M (e 2) fun t61 =>
    M (e 0) fun t62 =>
    M (e 1) fun t63 =>
    M (e 7) fun t64 =>
    N (xv (xbin BinOp.add 3 (Operand.tmp 63) (Operand.tmp 64) t63 t64)) w fun t65 w =>
    N (xv (Instr.sliceAt 27 t62 (some t65) none none)) w fun t66 w =>
    N (xcall (Value.func (Fn.func 47) #[] #[]) [t61, t66]) w fun t67 w =>
    N (xv (Op.unary UnOp.not t67)) w fun t68 w =>
    k (Env.p e 68 t68) w) := nr (by kernel_rfl)
theorem o32_15_eq : drawGo3 N T3 M G H 95 V32 o32_15 (puK o32_15) k o32_15.size [] (Array.replicate o32_15.size false) [] e e w =
    (M (e 0) fun t69 =>
    M (e 1) fun t70 =>
    M (e 7) fun t71 =>
    T3 (FrX none w) (xv (xbin BinOp.add 3 (Operand.tmp 70) (Operand.tmp 71) t70 t71)) fun t72 =>
    T3 (FrX none w) (xv (Instr.sliceAt 27 t69 (some t72) none none)) fun t73 =>
    M (e 0) fun t74 =>
    M (e 1) fun t75 =>
    T3 (FrX none w) (xv (Instr.sliceAt 27 t74 (some t75) none none)) fun t76 =>
    N (builtin Builtin.copy #[27, 27] 3 ([false, false]).toArray ([t73, t76]).toArray) w fun t77 w8 =>
    (k e) w8) := nr (by kernel_rfl)
theorem o32_16_eq : opsW N M G 95 V32 o32_16 k o32_16.toList [] e e w =
    (M (e 0) fun t78 =>
    M (e 1) fun t79 =>
    N (xv (Instr.sliceAt 27 t78 (some t79) none none)) w fun t80 w =>
    M (e 2) fun t81 =>
    N (builtin Builtin.copy #[27, 27] 3 ([false, false]).toArray ([t80, t81]).toArray) w fun t82 w =>
    k e w) := nr (by kernel_rfl)
theorem o32_17_eq : opsW N M G 95 V32 o32_17 k o32_17.toList [] e e w =
    (M (e 0) fun t83 =>
    M t83 fun t6 =>
    k (Env.p e 6 t6) w) := nr (by kernel_rfl)
theorem c32_16_s (hw : Cur w) : W3 Try.prog 95 V32 c32_16 Q e w = (opsW (nx Try.prog) mv gdP 95 V32 o32_17 (fun e w => Q .ret e w) o32_17.toList [] e e w) := by rw [(by kernel_rfl : c32_16 = .seq (.region 17 o32_17 false) Code.ret), W3_seq_reg]; simp only [W3_ret, W3_skip, W3_exit, W3_label]
theorem c32_15_s (hw : Cur w) : W3 Try.prog 95 V32 c32_15 Q e w = (opsW (nx Try.prog) mv gdP 95 V32 o32_16 (fun e w => W3 Try.prog 95 V32 c32_16 Q e w) o32_16.toList [] e e w) := by rw [(by kernel_rfl : c32_15 = .seq (.region 16 o32_16 false) c32_16), W3_seq_reg]
theorem c32_14_s (hw : Cur w) : W3 Try.prog 95 V32 c32_14 Q e w = (drawGo3 (nx Try.prog) (takeP Try.prog) mv gdP gdT 95 V32 o32_15 (puK o32_15) (fun e w => W3 Try.prog 95 V32 c32_15 Q e w) o32_15.size [] (Array.replicate o32_15.size false) [] e e w.drew) := by rw [(by kernel_rfl : c32_14 = .seq (.region 15 o32_15 true) c32_15), W3_seq_regD]
theorem c32_13_v : opV V32 (.tmp 68) = true := by kernel_rfl
theorem c32_13_s (hw : Cur w) : W3 Try.prog 95 V32 c32_13 Q e w = (condP (ev e (.tmp 68)) (W3 Try.prog 95 V32 c32_14 Q e w) (Q .normal e w)) := by rw [(by kernel_rfl : c32_13 = .cond (.tmp 68) c32_14 Code.skip), W3_cond, c32_13_v, cond_true]; simp only [W3_ret, W3_skip, W3_exit, W3_label]
theorem c32_12_s (hw : Cur w) : W3 Try.prog 95 V32 c32_12 Q e w = (opsW (nx Try.prog) mv gdP 95 V32 o32_14 (fun e w => W3 Try.prog 95 V32 c32_13 Q e w) o32_14.toList [] e e w) := by rw [(by kernel_rfl : c32_12 = .seq (.region 14 o32_14 false) c32_13), W3_seq_reg]
theorem c32_8_s (hw : Cur w) : W3 Try.prog 95 V32 c32_8 Q e w = (W3 Try.prog 95 V32 c32_12 (seqQ (fun e w => W3 Try.prog 95 V32 c32_9 Q e w) Q) e w) := by rw [(by kernel_rfl : c32_8 = .seq c32_12 c32_9), W3_seq]
theorem c32_7_s (hw : Cur w) : W3 Try.prog 95 V32 c32_7 Q e w = (opsW (nx Try.prog) mv gdP 95 V32 o32_13 (fun e w => W3 Try.prog 95 V32 c32_8 Q e w) o32_13.toList [] e e w) := by rw [(by kernel_rfl : c32_7 = .seq (.region 13 o32_13 false) c32_8), W3_seq_reg]
theorem o32_8_eq : opsW N M G 95 V32 o32_8 k o32_8.toList [] e e w =
    (M (e 8) fun t26 =>
    M (e 7) fun t27 =>
    N (xv (xbin BinOp.add 3 (Operand.tmp 26) (Operand.tmp 27) t26 t27)) w fun t28 w =>
    M (e 0) fun t29 =>
    N (builtin Builtin.cap #[27] 3 ([false]).toArray ([t29]).toArray) w fun t30 w =>
    N (xv (xbin BinOp.gtr 3 (Operand.tmp 28) (Operand.tmp 30) t28 t30)) w fun t31 w =>
    k (Env.p e 31 t31) w) := nr (by kernel_rfl)
theorem o32_9_eq : opsW N M G 95 V32 o32_9 k o32_9.toList [] e e w =
    (M (e 0) fun t32 =>
    M (e 1) fun t33 =>
    N (xv (Instr.sliceAt 27 t32 none (some t33) none)) w fun t34 w =>
    M (e 8) fun t35 =>
    M (e 7) fun t36 =>
    N (xv (xbin BinOp.add 3 (Operand.tmp 35) (Operand.tmp 36) t35 t36)) w fun t37 w =>
    M (e 1) fun t38 =>
    N (xv (xbin BinOp.sub 3 (Operand.tmp 37) (Operand.tmp 38) t37 t38)) w fun t39 w =>
    N (builtin Builtin.append #[27, 3] 27 ([false, false]).toArray ([t34, t39]).toArray) w fun t40 w =>
    M t40 fun t9 =>
    k (Env.p e 9 t9) w) := nr (by kernel_rfl)
theorem o32_10_eq : opsW N M G 95 V32 o32_10 k o32_10.toList [] e e w =
    (M (e 9) fun t41 =>
    M (e 1) fun t42 =>
    N (xv (Instr.sliceAt 27 t41 (some t42) none none)) w fun t43 w =>
    M (e 2) fun t44 =>
    N (builtin Builtin.copy #[27, 27] 3 ([false, false]).toArray ([t43, t44]).toArray) w fun t45 w =>
    k e w) := nr (by kernel_rfl)
theorem o32_11_eq : drawGo3 N T3 M G H 95 V32 o32_11 (puK o32_11) k o32_11.size [] (Array.replicate o32_11.size false) [] e e w =
    (M (e 9) fun t46 =>
    M (e 1) fun t47 =>
    M (e 7) fun t48 =>
    T3 (FrX none w) (xv (xbin BinOp.add 3 (Operand.tmp 47) (Operand.tmp 48) t47 t48)) fun t49 =>
    T3 (FrX none w) (xv (Instr.sliceAt 27 t46 (some t49) none none)) fun t50 =>
    M (e 0) fun t51 =>
    M (e 1) fun t52 =>
    T3 (FrX none w) (xv (Instr.sliceAt 27 t51 (some t52) none none)) fun t53 =>
    N (builtin Builtin.copy #[27, 27] 3 ([false, false]).toArray ([t50, t53]).toArray) w fun t54 w8 =>
    (k e) w8) := nr (by kernel_rfl)
theorem o32_12_eq : opsW N M G 95 V32 o32_12 k o32_12.toList [] e e w =
    (M (e 9) fun t55 =>
    M t55 fun t6 =>
    k (Env.p e 6 t6) w) := nr (by kernel_rfl)
theorem c32_22_s (hw : Cur w) : W3 Try.prog 95 V32 c32_22 Q e w = (opsW (nx Try.prog) mv gdP 95 V32 o32_12 (fun e w => Q .ret e w) o32_12.toList [] e e w) := by rw [(by kernel_rfl : c32_22 = .seq (.region 12 o32_12 false) Code.ret), W3_seq_reg]; simp only [W3_ret, W3_skip, W3_exit, W3_label]
theorem c32_21_s (hw : Cur w) : W3 Try.prog 95 V32 c32_21 Q e w = (drawGo3 (nx Try.prog) (takeP Try.prog) mv gdP gdT 95 V32 o32_11 (puK o32_11) (fun e w => W3 Try.prog 95 V32 c32_22 Q e w) o32_11.size [] (Array.replicate o32_11.size false) [] e e w.drew) := by rw [(by kernel_rfl : c32_21 = .seq (.region 11 o32_11 true) c32_22), W3_seq_regD]
theorem c32_20_s (hw : Cur w) : W3 Try.prog 95 V32 c32_20 Q e w = (opsW (nx Try.prog) mv gdP 95 V32 o32_10 (fun e w => W3 Try.prog 95 V32 c32_21 Q e w) o32_10.toList [] e e w) := by rw [(by kernel_rfl : c32_20 = .seq (.region 10 o32_10 false) c32_21), W3_seq_reg]
theorem c32_19_s (hw : Cur w) : W3 Try.prog 95 V32 c32_19 Q e w = (opsW (nx Try.prog) mv gdP 95 V32 o32_9 (fun e w => W3 Try.prog 95 V32 c32_20 Q e w) o32_9.toList [] e e w) := by rw [(by kernel_rfl : c32_19 = .seq (.region 9 o32_9 false) c32_20), W3_seq_reg]
theorem c32_18_v : opV V32 (.tmp 31) = true := by kernel_rfl
theorem c32_18_s (hw : Cur w) : W3 Try.prog 95 V32 c32_18 Q e w = (condP (ev e (.tmp 31)) (W3 Try.prog 95 V32 c32_19 Q e w) (Q .normal e w)) := by rw [(by kernel_rfl : c32_18 = .cond (.tmp 31) c32_19 Code.skip), W3_cond, c32_18_v, cond_true]; simp only [W3_ret, W3_skip, W3_exit, W3_label]
theorem c32_17_s (hw : Cur w) : W3 Try.prog 95 V32 c32_17 Q e w = (opsW (nx Try.prog) mv gdP 95 V32 o32_8 (fun e w => W3 Try.prog 95 V32 c32_18 Q e w) o32_8.toList [] e e w) := by rw [(by kernel_rfl : c32_17 = .seq (.region 8 o32_8 false) c32_18), W3_seq_reg]
theorem c32_6_s (hw : Cur w) : W3 Try.prog 95 V32 c32_6 Q e w = (W3 Try.prog 95 V32 c32_17 (seqQ (fun e w => W3 Try.prog 95 V32 c32_7 Q e w) Q) e w) := by rw [(by kernel_rfl : c32_6 = .seq c32_17 c32_7), W3_seq]
theorem o32_6_eq : opsW N M G 95 V32 o32_6 k o32_6.toList [] e e w =
    (M (e 1) fun t20 =>
    M (e 8) fun t21 =>
    N (xv (xbin BinOp.eql 3 (Operand.tmp 20) (Operand.tmp 21) t20 t21)) w fun t22 w =>
    k (Env.p e 22 t22) w) := nr (by kernel_rfl)
theorem o32_7_eq : opsW N M G 95 V32 o32_7 k o32_7.toList [] e e w =
    (M (e 0) fun t23 =>
    M (e 2) fun t24 =>
    N (builtin Builtin.append #[27, 27] 27 ([false, false]).toArray ([t23, t24]).toArray) w fun t25 w =>
    M t25 fun t6 =>
    k (Env.p e 6 t6) w) := nr (by kernel_rfl)
theorem c32_25_s (hw : Cur w) : W3 Try.prog 95 V32 c32_25 Q e w = (opsW (nx Try.prog) mv gdP 95 V32 o32_7 (fun e w => Q .ret e w) o32_7.toList [] e e w) := by rw [(by kernel_rfl : c32_25 = .seq (.region 7 o32_7 false) Code.ret), W3_seq_reg]; simp only [W3_ret, W3_skip, W3_exit, W3_label]
theorem c32_24_v : opV V32 (.tmp 22) = true := by kernel_rfl
theorem c32_24_s (hw : Cur w) : W3 Try.prog 95 V32 c32_24 Q e w = (condP (ev e (.tmp 22)) (W3 Try.prog 95 V32 c32_25 Q e w) (Q .normal e w)) := by rw [(by kernel_rfl : c32_24 = .cond (.tmp 22) c32_25 Code.skip), W3_cond, c32_24_v, cond_true]; simp only [W3_ret, W3_skip, W3_exit, W3_label]
theorem c32_23_s (hw : Cur w) : W3 Try.prog 95 V32 c32_23 Q e w = (opsW (nx Try.prog) mv gdP 95 V32 o32_6 (fun e w => W3 Try.prog 95 V32 c32_24 Q e w) o32_6.toList [] e e w) := by rw [(by kernel_rfl : c32_23 = .seq (.region 6 o32_6 false) c32_24), W3_seq_reg]
theorem c32_5_s (hw : Cur w) : W3 Try.prog 95 V32 c32_5 Q e w = (W3 Try.prog 95 V32 c32_23 (seqQ (fun e w => W3 Try.prog 95 V32 c32_6 Q e w) Q) e w) := by rw [(by kernel_rfl : c32_5 = .seq c32_23 c32_6), W3_seq]
theorem c32_4_s (hw : Cur w) : W3 Try.prog 95 V32 c32_4 Q e w = (opsW (nx Try.prog) mv gdP 95 V32 o32_5 (fun e w => W3 Try.prog 95 V32 c32_5 Q e w) o32_5.toList [] e e w) := by rw [(by kernel_rfl : c32_4 = .seq (.region 5 o32_5 false) c32_5), W3_seq_reg]
theorem o32_3_eq : opsW N M G 95 V32 o32_3 k o32_3.toList [] e e w =
    (M (e 7) fun t15 =>
    N (xv (xbin BinOp.eql 3 (Operand.tmp 15) (Operand.const (Value.int IntKind.i64 0)) t15 (Value.int IntKind.i64 0))) w fun t16 w =>
    k (Env.p e 16 t16) w) := nr (by kernel_rfl)
theorem o32_4_eq : opsW N M G 95 V32 o32_4 k o32_4.toList [] e e w =
    (M (e 0) fun t17 =>
    M t17 fun t6 =>
    k (Env.p e 6 t6) w) := nr (by kernel_rfl)
theorem c32_28_s (hw : Cur w) : W3 Try.prog 95 V32 c32_28 Q e w = (opsW (nx Try.prog) mv gdP 95 V32 o32_4 (fun e w => Q .ret e w) o32_4.toList [] e e w) := by rw [(by kernel_rfl : c32_28 = .seq (.region 4 o32_4 false) Code.ret), W3_seq_reg]; simp only [W3_ret, W3_skip, W3_exit, W3_label]
theorem c32_27_v : opV V32 (.tmp 16) = true := by kernel_rfl
theorem c32_27_s (hw : Cur w) : W3 Try.prog 95 V32 c32_27 Q e w = (condP (ev e (.tmp 16)) (W3 Try.prog 95 V32 c32_28 Q e w) (Q .normal e w)) := by rw [(by kernel_rfl : c32_27 = .cond (.tmp 16) c32_28 Code.skip), W3_cond, c32_27_v, cond_true]; simp only [W3_ret, W3_skip, W3_exit, W3_label]
theorem c32_26_s (hw : Cur w) : W3 Try.prog 95 V32 c32_26 Q e w = (opsW (nx Try.prog) mv gdP 95 V32 o32_3 (fun e w => W3 Try.prog 95 V32 c32_27 Q e w) o32_3.toList [] e e w) := by rw [(by kernel_rfl : c32_26 = .seq (.region 3 o32_3 false) c32_27), W3_seq_reg]
theorem c32_3_s (hw : Cur w) : W3 Try.prog 95 V32 c32_3 Q e w = (W3 Try.prog 95 V32 c32_26 (seqQ (fun e w => W3 Try.prog 95 V32 c32_4 Q e w) Q) e w) := by rw [(by kernel_rfl : c32_3 = .seq c32_26 c32_4), W3_seq]
theorem c32_2_s (hw : Cur w) : W3 Try.prog 95 V32 c32_2 Q e w = (opsW (nx Try.prog) mv gdP 95 V32 o32_2 (fun e w => W3 Try.prog 95 V32 c32_3 Q e w) o32_2.toList [] e e w) := by rw [(by kernel_rfl : c32_2 = .seq (.region 2 o32_2 false) c32_3), W3_seq_reg]
theorem c32_1_s (hw : Cur w) : W3 Try.prog 95 V32 c32_1 Q e w = (opsW (nx Try.prog) mv gdP 95 V32 o32_1 (fun e w => W3 Try.prog 95 V32 c32_2 Q e w) o32_1.toList [] e e w) := by rw [(by kernel_rfl : c32_1 = .seq (.region 1 o32_1 false) c32_2), W3_seq_reg]
theorem c32_s (hw : Cur w) : W3 Try.prog 95 V32 c32 Q e w = (opsW (nx Try.prog) mv gdP 95 V32 o32_0 (fun e w => W3 Try.prog 95 V32 c32_1 Q e w) o32_0.toList [] e e w) := by rw [(by kernel_rfl : c32 = .seq (.region 0 o32_0 false) c32_1), W3_seq_reg]
theorem call32 {a0 a1 a2 : Value} {w : World} {R : Value → World → Prop} (h : W3 Try.prog 95 V32 c32 (retQ Try.prog [.tmp 6] R) (argE [a0, a1, a2]) w) : CallsN Try.prog 32 [a0, a1, a2] w R :=
  callsN_of_W3 (c := c32) (rs := [.tmp 6]) V32 Try.ntmps32 (by rw [Try.results32]) mixed Try.func32 (by kernel_rfl) (by kernel_rfl) (by kernel_rfl) (by kernel_rfl) (by simp) h
noncomputable def hk32 := And.intro (@o32_0_eq) <| And.intro (@o32_1_eq) <| And.intro (@o32_2_eq) <| And.intro (@o32_5_eq) <| And.intro (@o32_13_eq) <| And.intro (@o32_18_eq) <| And.intro (@o32_19_eq) <| And.intro (@o32_20_eq) <| And.intro (@c32_11_s) <| And.intro (@c32_10_s) <| And.intro (@c32_9_s) <| And.intro (@o32_14_eq) <| And.intro (@o32_15_eq) <| And.intro (@o32_16_eq) <| And.intro (@o32_17_eq) <| And.intro (@c32_16_s) <| And.intro (@c32_15_s) <| And.intro (@c32_14_s) <| And.intro (@c32_13_s) <| And.intro (@c32_12_s) <| And.intro (@c32_8_s) <| And.intro (@c32_7_s) <| And.intro (@o32_8_eq) <| And.intro (@o32_9_eq) <| And.intro (@o32_10_eq) <| And.intro (@o32_11_eq) <| And.intro (@o32_12_eq) <| And.intro (@c32_22_s) <| And.intro (@c32_21_s) <| And.intro (@c32_20_s) <| And.intro (@c32_19_s) <| And.intro (@c32_18_s) <| And.intro (@c32_17_s) <| And.intro (@c32_6_s) <| And.intro (@o32_6_eq) <| And.intro (@o32_7_eq) <| And.intro (@c32_25_s) <| And.intro (@c32_24_s) <| And.intro (@c32_23_s) <| And.intro (@c32_5_s) <| And.intro (@c32_4_s) <| And.intro (@o32_3_eq) <| And.intro (@o32_4_eq) <| And.intro (@c32_28_s) <| And.intro (@c32_27_s) <| And.intro (@c32_26_s) <| And.intro (@c32_3_s) <| And.intro (@c32_2_s) <| And.intro (@c32_1_s) <| @c32_s
-- K32: ↓hk32
/-! ### vouch/fact.Cost -/
def V33 : Nat → Bool := fun i => [0, 1, 2].elem i
noncomputable def c33 : Code := (Try.f33.body.getD .skip)
noncomputable def o33_0 : Array Oper := rO (cL c33)
noncomputable def c33_1 : Code := (cR c33)
noncomputable def o33_1 : Array Oper := rO (cL c33_1)
theorem o33_0_eq : opsW N M G 12 V33 o33_0 k o33_0.toList [] e e w =
    (N (xv (Instr.box 34 (e 0))) w fun t1 w =>
    M (Value.int IntKind.i64 0) fun t2 =>
    k (Env.p (Env.p e 1 t1) 2 t2) w) := nr (by kernel_rfl)
theorem o33_1_eq : opsW N M G 12 V33 o33_1 k o33_1.toList [] e e w =
    (N (xv (Instr.fieldAt 34 (e 1) 0)) w fun t3 w =>
    N (xv (Instr.loadAt 9 t3)) w fun t4 w =>
    N (builtin Builtin.len #[9] 3 ([false]).toArray ([t4]).toArray) w fun t5 w =>
    N (xv (xbin BinOp.add 3 (Operand.const (Value.int IntKind.i64 32)) (Operand.tmp 5) (Value.int IntKind.i64 32) t5)) w fun t6 w =>
    N (xv (Instr.fieldAt 34 (e 1) 1)) w fun t7 w =>
    N (xv (Instr.fieldAt 32 t7 1)) w fun t8 w =>
    N (xv (Instr.loadAt 9 t8)) w fun t9 w =>
    N (builtin Builtin.len #[9] 3 ([false]).toArray ([t9]).toArray) w fun t10 w =>
    N (xv (xbin BinOp.add 3 (Operand.tmp 6) (Operand.tmp 10) t6 t10)) w fun t11 w =>
    M t11 fun t2 =>
    k (Env.p e 2 t2) w) := nr (by kernel_rfl)
theorem c33_1_s (hw : Cur w) : W3 Try.prog 12 V33 c33_1 Q e w = (opsW (nx Try.prog) mv gdP 12 V33 o33_1 (fun e w => Q .ret e w) o33_1.toList [] e e w) := by rw [(by kernel_rfl : c33_1 = .seq (.region 1 o33_1 false) Code.ret), W3_seq_reg]; simp only [W3_ret, W3_skip, W3_exit, W3_label]
theorem c33_s (hw : Cur w) : W3 Try.prog 12 V33 c33 Q e w = (opsW (nx Try.prog) mv gdP 12 V33 o33_0 (fun e w => W3 Try.prog 12 V33 c33_1 Q e w) o33_0.toList [] e e w) := by rw [(by kernel_rfl : c33 = .seq (.region 0 o33_0 false) c33_1), W3_seq_reg]
theorem call33 {a0 : Value} {w : World} {R : Value → World → Prop} (h : W3 Try.prog 12 V33 c33 (retQ Try.prog [.tmp 2] R) (argE [a0]) w) : CallsN Try.prog 33 [a0] w R :=
  callsN_of_W3 (c := c33) (rs := [.tmp 2]) V33 Try.ntmps33 (by rw [Try.results33]) mixed Try.func33 (by kernel_rfl) (by kernel_rfl) (by kernel_rfl) (by kernel_rfl) (by simp) h
noncomputable def hk33 := And.intro (@o33_0_eq) <| And.intro (@o33_1_eq) <| And.intro (@c33_1_s) <| @c33_s
-- K33: ↓hk33
/-! ### (*vouch/table.Table) . row -/
def V34 : Nat → Bool := fun i => [0, 1, 4, 6].elem i
noncomputable def c34 : Code := (Try.f34.body.getD .skip)
noncomputable def o34_0 : Array Oper := rO (cL c34)
noncomputable def c34_1 : Code := (cR c34)
noncomputable def c34_2 : Code := (cR c34_1)
noncomputable def o34_3 : Array Oper := rO (cL c34_2)
noncomputable def c34_3 : Code := (cL c34_1)
noncomputable def o34_1 : Array Oper := rO (cL c34_3)
noncomputable def c34_4 : Code := (cR c34_3)
noncomputable def c34_5 : Code := (cL c34_4)
noncomputable def o34_2 : Array Oper := rO (cL c34_5)
theorem o34_0_eq : opsW N M G 13 V34 o34_0 k o34_0.toList [] e e w =
    (M (Value.slice none 0 0) fun t4 =>
    k (Env.p e 4 t4) w) := nr (by kernel_rfl)
theorem o34_3_eq : opsW N M G 13 V34 o34_3 k o34_3.toList [] e e w =
    (M (e 0) fun t7 =>
    N (xnil t7) w fun t8 w =>
    N (xv (Instr.fieldAt 56 t8 0)) w fun t9 w =>
    N (xv (Instr.loadAt 54 t9)) w fun t10 w =>
    M (e 1) fun t11 =>
    N (xv (Instr.lookup 54 t10 t11 false)) w fun t12 w =>
    M t12 fun t4 =>
    k (Env.p e 4 t4) w) := nr (by kernel_rfl)
theorem c34_2_s (hw : Cur w) : W3 Try.prog 13 V34 c34_2 Q e w = (opsW (nx Try.prog) mv gdP 13 V34 o34_3 (fun e w => Q .ret e w) o34_3.toList [] e e w) := by rw [(by kernel_rfl : c34_2 = .seq (.region 3 o34_3 false) Code.ret), W3_seq_reg]; simp only [W3_ret, W3_skip, W3_exit, W3_label]
theorem o34_1_eq : opsW N M G 13 V34 o34_1 k o34_1.toList [] e e w =
    (M (e 0) fun t5 =>
    N (xv (xbin BinOp.eql 24 (Operand.tmp 5) (Operand.const (Value.pointer none)) t5 (Value.pointer none))) w fun t6 w =>
    k (Env.p e 6 t6) w) := nr (by kernel_rfl)
theorem o34_2_eq : opsW N M G 13 V34 o34_2 k o34_2.toList [] e e w =
    (M (Value.slice none 0 0) fun t4 =>
    k (Env.p e 4 t4) w) := nr (by kernel_rfl)
theorem c34_5_s (hw : Cur w) : W3 Try.prog 13 V34 c34_5 Q e w = (opsW (nx Try.prog) mv gdP 13 V34 o34_2 (fun e w => Q .ret e w) o34_2.toList [] e e w) := by rw [(by kernel_rfl : c34_5 = .seq (.region 2 o34_2 false) Code.ret), W3_seq_reg]; simp only [W3_ret, W3_skip, W3_exit, W3_label]
theorem c34_4_v : opV V34 (.tmp 6) = true := by kernel_rfl
theorem c34_4_s (hw : Cur w) : W3 Try.prog 13 V34 c34_4 Q e w = (condP (ev e (.tmp 6)) (W3 Try.prog 13 V34 c34_5 Q e w) (Q .normal e w)) := by rw [(by kernel_rfl : c34_4 = .cond (.tmp 6) c34_5 Code.skip), W3_cond, c34_4_v, cond_true]; simp only [W3_ret, W3_skip, W3_exit, W3_label]
theorem c34_3_s (hw : Cur w) : W3 Try.prog 13 V34 c34_3 Q e w = (opsW (nx Try.prog) mv gdP 13 V34 o34_1 (fun e w => W3 Try.prog 13 V34 c34_4 Q e w) o34_1.toList [] e e w) := by rw [(by kernel_rfl : c34_3 = .seq (.region 1 o34_1 false) c34_4), W3_seq_reg]
theorem c34_1_s (hw : Cur w) : W3 Try.prog 13 V34 c34_1 Q e w = (W3 Try.prog 13 V34 c34_3 (seqQ (fun e w => W3 Try.prog 13 V34 c34_2 Q e w) Q) e w) := by rw [(by kernel_rfl : c34_1 = .seq c34_3 c34_2), W3_seq]
theorem c34_s (hw : Cur w) : W3 Try.prog 13 V34 c34 Q e w = (opsW (nx Try.prog) mv gdP 13 V34 o34_0 (fun e w => W3 Try.prog 13 V34 c34_1 Q e w) o34_0.toList [] e e w) := by rw [(by kernel_rfl : c34 = .seq (.region 0 o34_0 false) c34_1), W3_seq_reg]
theorem call34 {a0 a1 : Value} {w : World} {R : Value → World → Prop} (h : W3 Try.prog 13 V34 c34 (retQ Try.prog [.tmp 4] R) (argE [a0, a1]) w) : CallsN Try.prog 34 [a0, a1] w R :=
  callsN_of_W3 (c := c34) (rs := [.tmp 4]) V34 Try.ntmps34 (by rw [Try.results34]) mixed Try.func34 (by kernel_rfl) (by kernel_rfl) (by kernel_rfl) (by kernel_rfl) (by simp) h
noncomputable def hk34 := And.intro (@o34_0_eq) <| And.intro (@o34_3_eq) <| And.intro (@c34_2_s) <| And.intro (@o34_1_eq) <| And.intro (@o34_2_eq) <| And.intro (@c34_5_s) <| And.intro (@c34_4_s) <| And.intro (@c34_3_s) <| And.intro (@c34_1_s) <| @c34_s
-- K34: ↓hk34
/-! ### vouch/fact.Meets -/
def V35 : Nat → Bool := fun i => [0, 1, 2, 3, 5, 6].elem i
noncomputable def c35 : Code := (Try.f35.body.getD .skip)
noncomputable def o35_0 : Array Oper := rO (cL c35)
noncomputable def c35_1 : Code := (cR c35)
noncomputable def o35_1 : Array Oper := rO (cL c35_1)
theorem o35_0_eq : opsW N M G 13 V35 o35_0 k o35_0.toList [] e e w =
    (N (xv (Instr.box 34 (e 0))) w fun t3 w =>
    N (xv (Instr.box 38 (e 2))) w fun t5 w =>
    M (Value.bool false) fun t6 =>
    k (Env.p (Env.p (Env.p e 3 t3) 5 t5) 6 t6) w) := nr (by kernel_rfl)
theorem o35_1_eq : drawGo3 N T3 M G H 13 V35 o35_1 (puK o35_1) k o35_1.size [] (Array.replicate o35_1.size false) [] e e w =
    (T3 (FrX (some []) w) (xv (Instr.loadAt 34 (e 3))) fun t7 =>
    M (e 1) fun t8 =>
    T3 (FrX (some []) w) (xv (Instr.loadAt 38 (e 5))) fun t10 =>
    N (xcall (Value.func (Fn.func 49) #[] #[]) [t7, t8]) w fun t9 w2 =>
    FrX (some []) w w2 ∧ (N (xcall (Value.func (Fn.func 51) #[] #[]) [t10]) w2 fun t11 w4 =>
    N (xcall (Value.func (Fn.func 50) #[] #[]) [t9, t11]) w4 fun t12 w5 =>
    M t12 fun t6 =>
    (k (Env.p e 6 t6)) w5)) := nr (by kernel_rfl)
theorem c35_1_s (hw : Cur w) : W3 Try.prog 13 V35 c35_1 Q e w = (drawGo3 (nx Try.prog) (takeP Try.prog) mv gdP gdT 13 V35 o35_1 (puK o35_1) (fun e w => Q .ret e w) o35_1.size [] (Array.replicate o35_1.size false) [] e e w.drew) := by rw [(by kernel_rfl : c35_1 = .seq (.region 1 o35_1 true) Code.ret), W3_seq_regD]; simp only [W3_ret, W3_skip, W3_exit, W3_label]
theorem c35_s (hw : Cur w) : W3 Try.prog 13 V35 c35 Q e w = (opsW (nx Try.prog) mv gdP 13 V35 o35_0 (fun e w => W3 Try.prog 13 V35 c35_1 Q e w) o35_0.toList [] e e w) := by rw [(by kernel_rfl : c35 = .seq (.region 0 o35_0 false) c35_1), W3_seq_reg]
theorem call35 {a0 a1 a2 : Value} {w : World} {R : Value → World → Prop} (h : W3 Try.prog 13 V35 c35 (retQ Try.prog [.tmp 6] R) (argE [a0, a1, a2]) w) : CallsN Try.prog 35 [a0, a1, a2] w R :=
  callsN_of_W3 (c := c35) (rs := [.tmp 6]) V35 Try.ntmps35 (by rw [Try.results35]) mixed Try.func35 (by kernel_rfl) (by kernel_rfl) (by kernel_rfl) (by kernel_rfl) (by simp) h
noncomputable def hk35 := And.intro (@o35_0_eq) <| And.intro (@o35_1_eq) <| And.intro (@c35_1_s) <| @c35_s
-- K35: ↓hk35
/-! ### slices.Clone[[]vouch/api.Entry,vouch/api.Entry] -/
def V36 : Nat → Bool := fun i => [0, 2, 4].elem i
noncomputable def c36 : Code := (Try.f36.body.getD .skip)
noncomputable def o36_0 : Array Oper := rO (cL c36)
noncomputable def c36_1 : Code := (cR c36)
noncomputable def c36_2 : Code := (cR c36_1)
noncomputable def o36_3 : Array Oper := rO (cL c36_2)
noncomputable def c36_3 : Code := (cL c36_1)
noncomputable def o36_1 : Array Oper := rO (cL c36_3)
noncomputable def c36_4 : Code := (cR c36_3)
noncomputable def c36_5 : Code := (cL c36_4)
noncomputable def o36_2 : Array Oper := rO (cL c36_5)
theorem o36_0_eq : opsW N M G 8 V36 o36_0 k o36_0.toList [] e e w =
    (M (Value.slice none 0 0) fun t2 =>
    k (Env.p e 2 t2) w) := nr (by kernel_rfl)
theorem o36_3_eq : opsW N M G 8 V36 o36_3 k o36_3.toList [] e e w =
    (N (xv (Instr.buildSlice 27 0 ([]).toArray)) w fun t5 w =>
    M (e 0) fun t6 =>
    N (builtin Builtin.append #[27, 27] 27 ([false, false]).toArray ([t5, t6]).toArray) w fun t7 w =>
    M t7 fun t2 =>
    k (Env.p e 2 t2) w) := nr (by kernel_rfl)
theorem c36_2_s (hw : Cur w) : W3 Try.prog 8 V36 c36_2 Q e w = (opsW (nx Try.prog) mv gdP 8 V36 o36_3 (fun e w => Q .ret e w) o36_3.toList [] e e w) := by rw [(by kernel_rfl : c36_2 = .seq (.region 3 o36_3 false) Code.ret), W3_seq_reg]; simp only [W3_ret, W3_skip, W3_exit, W3_label]
theorem o36_1_eq : opsW N M G 8 V36 o36_1 k o36_1.toList [] e e w =
    (M (e 0) fun t3 =>
    N (xv (xbin BinOp.eql 27 (Operand.tmp 3) (Operand.const (Value.slice none 0 0)) t3 (Value.slice none 0 0))) w fun t4 w =>
    k (Env.p e 4 t4) w) := nr (by kernel_rfl)
theorem o36_2_eq : opsW N M G 8 V36 o36_2 k o36_2.toList [] e e w =
    (M (Value.slice none 0 0) fun t2 =>
    k (Env.p e 2 t2) w) := nr (by kernel_rfl)
theorem c36_5_s (hw : Cur w) : W3 Try.prog 8 V36 c36_5 Q e w = (opsW (nx Try.prog) mv gdP 8 V36 o36_2 (fun e w => Q .ret e w) o36_2.toList [] e e w) := by rw [(by kernel_rfl : c36_5 = .seq (.region 2 o36_2 false) Code.ret), W3_seq_reg]; simp only [W3_ret, W3_skip, W3_exit, W3_label]
theorem c36_4_v : opV V36 (.tmp 4) = true := by kernel_rfl
theorem c36_4_s (hw : Cur w) : W3 Try.prog 8 V36 c36_4 Q e w = (condP (ev e (.tmp 4)) (W3 Try.prog 8 V36 c36_5 Q e w) (Q .normal e w)) := by rw [(by kernel_rfl : c36_4 = .cond (.tmp 4) c36_5 Code.skip), W3_cond, c36_4_v, cond_true]; simp only [W3_ret, W3_skip, W3_exit, W3_label]
theorem c36_3_s (hw : Cur w) : W3 Try.prog 8 V36 c36_3 Q e w = (opsW (nx Try.prog) mv gdP 8 V36 o36_1 (fun e w => W3 Try.prog 8 V36 c36_4 Q e w) o36_1.toList [] e e w) := by rw [(by kernel_rfl : c36_3 = .seq (.region 1 o36_1 false) c36_4), W3_seq_reg]
theorem c36_1_s (hw : Cur w) : W3 Try.prog 8 V36 c36_1 Q e w = (W3 Try.prog 8 V36 c36_3 (seqQ (fun e w => W3 Try.prog 8 V36 c36_2 Q e w) Q) e w) := by rw [(by kernel_rfl : c36_1 = .seq c36_3 c36_2), W3_seq]
theorem c36_s (hw : Cur w) : W3 Try.prog 8 V36 c36 Q e w = (opsW (nx Try.prog) mv gdP 8 V36 o36_0 (fun e w => W3 Try.prog 8 V36 c36_1 Q e w) o36_0.toList [] e e w) := by rw [(by kernel_rfl : c36 = .seq (.region 0 o36_0 false) c36_1), W3_seq_reg]
theorem call36 {a0 : Value} {w : World} {R : Value → World → Prop} (h : W3 Try.prog 8 V36 c36 (retQ Try.prog [.tmp 2] R) (argE [a0]) w) : CallsN Try.prog 36 [a0] w R :=
  callsN_of_W3 (c := c36) (rs := [.tmp 2]) V36 Try.ntmps36 (by rw [Try.results36]) mixed Try.func36 (by kernel_rfl) (by kernel_rfl) (by kernel_rfl) (by kernel_rfl) (by simp) h
noncomputable def hk36 := And.intro (@o36_0_eq) <| And.intro (@o36_3_eq) <| And.intro (@c36_2_s) <| And.intro (@o36_1_eq) <| And.intro (@o36_2_eq) <| And.intro (@c36_5_s) <| And.intro (@c36_4_s) <| And.intro (@c36_3_s) <| And.intro (@c36_1_s) <| @c36_s
-- K36: ↓hk36
/-! ### slices.Delete[[]vouch/api.Entry,vouch/api.Entry] -/
def V37 : Nat → Bool := fun i => [0, 1, 2, 6, 7, 16].elem i
noncomputable def c37 : Code := (Try.f37.body.getD .skip)
noncomputable def o37_0 : Array Oper := rO (cL c37)
noncomputable def c37_1 : Code := (cR c37)
noncomputable def o37_1 : Array Oper := rO (cL c37_1)
noncomputable def c37_2 : Code := (cR c37_1)
noncomputable def c37_3 : Code := (cR c37_2)
noncomputable def o37_4 : Array Oper := rO (cL c37_3)
noncomputable def c37_4 : Code := (cR c37_3)
noncomputable def o37_5 : Array Oper := rO (cL c37_4)
noncomputable def c37_5 : Code := (cR c37_4)
noncomputable def o37_6 : Array Oper := rO (cL c37_5)
noncomputable def c37_6 : Code := (cR c37_5)
noncomputable def o37_7 : Array Oper := rO (cL c37_6)
noncomputable def c37_7 : Code := (cL c37_2)
noncomputable def o37_2 : Array Oper := rO (cL c37_7)
noncomputable def c37_8 : Code := (cR c37_7)
noncomputable def c37_9 : Code := (cL c37_8)
noncomputable def o37_3 : Array Oper := rO (cL c37_9)
theorem o37_0_eq : opsW N M G 33 V37 o37_0 k o37_0.toList [] e e w =
    (M (Value.slice none 0 0) fun t6 =>
    k (Env.p e 6 t6) w) := nr (by kernel_rfl)
theorem o37_1_eq : opsW N M G 33 V37 o37_1 k o37_1.toList [] e e w =
    (M (e 0) fun t8 =>
    M (e 1) fun t9 =>
    M (e 2) fun t10 =>
    M (e 0) fun t11 =>
    N (builtin Builtin.len #[27] 3 ([false]).toArray ([t11]).toArray) w fun t12 w =>
    N (xv (Instr.sliceAt 27 t8 (some t9) (some t10) (some t12))) w fun t13 w =>
    k e w) := nr (by kernel_rfl)
theorem o37_4_eq : opsW N M G 33 V37 o37_4 k o37_4.toList [] e e w =
    (M (e 0) fun t18 =>
    N (builtin Builtin.len #[27] 3 ([false]).toArray ([t18]).toArray) w fun t19 w =>
    M t19 fun t7 =>
    k (Env.p e 7 t7) w) := nr (by kernel_rfl)
theorem o37_5_eq : drawGo3 N T3 M G H 33 V37 o37_5 (puK o37_5) k o37_5.size [] (Array.replicate o37_5.size false) [] e e w =
    (M (e 0) fun t20 =>
    M (e 1) fun t21 =>
    T3 (FrX none w) (xv (Instr.sliceAt 27 t20 none (some t21) none)) fun t22 =>
    M (e 0) fun t23 =>
    M (e 2) fun t24 =>
    T3 (FrX none w) (xv (Instr.sliceAt 27 t23 (some t24) none none)) fun t25 =>
    N (builtin Builtin.append #[27, 27] 27 ([false, false]).toArray ([t22, t25]).toArray) w fun t26 w6 =>
    M t26 fun t0 =>
    (k (Env.p e 0 t0)) w6) := nr (by kernel_rfl)
theorem o37_6_eq : opsW N M G 33 V37 o37_6 k o37_6.toList [] e e w =
    (M (e 0) fun t27 =>
    M (e 0) fun t28 =>
    N (builtin Builtin.len #[27] 3 ([false]).toArray ([t28]).toArray) w fun t29 w =>
    M (e 7) fun t30 =>
    N (xv (Instr.sliceAt 27 t27 (some t29) (some t30) none)) w fun t31 w =>
    N (builtin Builtin.clear #[27] 0 ([false]).toArray ([t31]).toArray) w fun _ w =>
    k e w) := nr (by kernel_rfl)
theorem o37_7_eq : opsW N M G 33 V37 o37_7 k o37_7.toList [] e e w =
    (M (e 0) fun t32 =>
    M t32 fun t6 =>
    k (Env.p e 6 t6) w) := nr (by kernel_rfl)
theorem c37_6_s (hw : Cur w) : W3 Try.prog 33 V37 c37_6 Q e w = (opsW (nx Try.prog) mv gdP 33 V37 o37_7 (fun e w => Q .ret e w) o37_7.toList [] e e w) := by rw [(by kernel_rfl : c37_6 = .seq (.region 7 o37_7 false) Code.ret), W3_seq_reg]; simp only [W3_ret, W3_skip, W3_exit, W3_label]
theorem c37_5_s (hw : Cur w) : W3 Try.prog 33 V37 c37_5 Q e w = (opsW (nx Try.prog) mv gdP 33 V37 o37_6 (fun e w => W3 Try.prog 33 V37 c37_6 Q e w) o37_6.toList [] e e w) := by rw [(by kernel_rfl : c37_5 = .seq (.region 6 o37_6 false) c37_6), W3_seq_reg]
theorem c37_4_s (hw : Cur w) : W3 Try.prog 33 V37 c37_4 Q e w = (drawGo3 (nx Try.prog) (takeP Try.prog) mv gdP gdT 33 V37 o37_5 (puK o37_5) (fun e w => W3 Try.prog 33 V37 c37_5 Q e w) o37_5.size [] (Array.replicate o37_5.size false) [] e e w.drew) := by rw [(by kernel_rfl : c37_4 = .seq (.region 5 o37_5 true) c37_5), W3_seq_regD]
theorem c37_3_s (hw : Cur w) : W3 Try.prog 33 V37 c37_3 Q e w = (opsW (nx Try.prog) mv gdP 33 V37 o37_4 (fun e w => W3 Try.prog 33 V37 c37_4 Q e w) o37_4.toList [] e e w) := by rw [(by kernel_rfl : c37_3 = .seq (.region 4 o37_4 false) c37_4), W3_seq_reg]
theorem o37_2_eq : opsW N M G 33 V37 o37_2 k o37_2.toList [] e e w =
    (M (e 1) fun t14 =>
    M (e 2) fun t15 =>
    N (xv (xbin BinOp.eql 3 (Operand.tmp 14) (Operand.tmp 15) t14 t15)) w fun t16 w =>
    k (Env.p e 16 t16) w) := nr (by kernel_rfl)
theorem o37_3_eq : opsW N M G 33 V37 o37_3 k o37_3.toList [] e e w =
    (M (e 0) fun t17 =>
    M t17 fun t6 =>
    k (Env.p e 6 t6) w) := nr (by kernel_rfl)
theorem c37_9_s (hw : Cur w) : W3 Try.prog 33 V37 c37_9 Q e w = (opsW (nx Try.prog) mv gdP 33 V37 o37_3 (fun e w => Q .ret e w) o37_3.toList [] e e w) := by rw [(by kernel_rfl : c37_9 = .seq (.region 3 o37_3 false) Code.ret), W3_seq_reg]; simp only [W3_ret, W3_skip, W3_exit, W3_label]
theorem c37_8_v : opV V37 (.tmp 16) = true := by kernel_rfl
theorem c37_8_s (hw : Cur w) : W3 Try.prog 33 V37 c37_8 Q e w = (condP (ev e (.tmp 16)) (W3 Try.prog 33 V37 c37_9 Q e w) (Q .normal e w)) := by rw [(by kernel_rfl : c37_8 = .cond (.tmp 16) c37_9 Code.skip), W3_cond, c37_8_v, cond_true]; simp only [W3_ret, W3_skip, W3_exit, W3_label]
theorem c37_7_s (hw : Cur w) : W3 Try.prog 33 V37 c37_7 Q e w = (opsW (nx Try.prog) mv gdP 33 V37 o37_2 (fun e w => W3 Try.prog 33 V37 c37_8 Q e w) o37_2.toList [] e e w) := by rw [(by kernel_rfl : c37_7 = .seq (.region 2 o37_2 false) c37_8), W3_seq_reg]
theorem c37_2_s (hw : Cur w) : W3 Try.prog 33 V37 c37_2 Q e w = (W3 Try.prog 33 V37 c37_7 (seqQ (fun e w => W3 Try.prog 33 V37 c37_3 Q e w) Q) e w) := by rw [(by kernel_rfl : c37_2 = .seq c37_7 c37_3), W3_seq]
theorem c37_1_s (hw : Cur w) : W3 Try.prog 33 V37 c37_1 Q e w = (opsW (nx Try.prog) mv gdP 33 V37 o37_1 (fun e w => W3 Try.prog 33 V37 c37_2 Q e w) o37_1.toList [] e e w) := by rw [(by kernel_rfl : c37_1 = .seq (.region 1 o37_1 false) c37_2), W3_seq_reg]
theorem c37_s (hw : Cur w) : W3 Try.prog 33 V37 c37 Q e w = (opsW (nx Try.prog) mv gdP 33 V37 o37_0 (fun e w => W3 Try.prog 33 V37 c37_1 Q e w) o37_0.toList [] e e w) := by rw [(by kernel_rfl : c37 = .seq (.region 0 o37_0 false) c37_1), W3_seq_reg]
theorem call37 {a0 a1 a2 : Value} {w : World} {R : Value → World → Prop} (h : W3 Try.prog 33 V37 c37 (retQ Try.prog [.tmp 6] R) (argE [a0, a1, a2]) w) : CallsN Try.prog 37 [a0, a1, a2] w R :=
  callsN_of_W3 (c := c37) (rs := [.tmp 6]) V37 Try.ntmps37 (by rw [Try.results37]) mixed Try.func37 (by kernel_rfl) (by kernel_rfl) (by kernel_rfl) (by kernel_rfl) (by simp) h
noncomputable def hk37 := And.intro (@o37_0_eq) <| And.intro (@o37_1_eq) <| And.intro (@o37_4_eq) <| And.intro (@o37_5_eq) <| And.intro (@o37_6_eq) <| And.intro (@o37_7_eq) <| And.intro (@c37_6_s) <| And.intro (@c37_5_s) <| And.intro (@c37_4_s) <| And.intro (@c37_3_s) <| And.intro (@o37_2_eq) <| And.intro (@o37_3_eq) <| And.intro (@c37_9_s) <| And.intro (@c37_8_s) <| And.intro (@c37_7_s) <| And.intro (@c37_2_s) <| And.intro (@c37_1_s) <| @c37_s
-- K37: ↓hk37
/-! ### slices.BinarySearchFunc[[]vouch/api.Entry,vouch/api.Entry,int64] -/
def V44 : Nat → Bool := fun i => [0, 1, 2, 6, 7, 8, 9, 10, 11, 17, 31].elem i
noncomputable def c44 : Code := (Try.f44.body.getD .skip)
noncomputable def o44_0 : Array Oper := rO (cL c44)
noncomputable def c44_1 : Code := (cR c44)
noncomputable def o44_1 : Array Oper := rO (cL c44_1)
noncomputable def c44_2 : Code := (cR c44_1)
noncomputable def o44_2 : Array Oper := rO (cL c44_2)
noncomputable def c44_3 : Code := (cR c44_2)
noncomputable def c44_4 : Code := (cR c44_3)
noncomputable def o44_8 : Array Oper := rO (cL c44_4)
noncomputable def c44_5 : Code := (cL c44_3)
noncomputable def c44_6 : Code := (cL c44_5)
noncomputable def c44_7 : Code := (cL c44_6)
noncomputable def c44_8 : Code := (cR c44_7)
noncomputable def c44_9 : Code := (cL c44_8)
noncomputable def o44_4 : Array Oper := rO (cL c44_9)
noncomputable def c44_10 : Code := (cR c44_9)
noncomputable def o44_5 : Array Oper := rO (cL c44_10)
noncomputable def c44_11 : Code := (cR c44_10)
noncomputable def c44_12 : Code := (cL c44_11)
noncomputable def o44_6 : Array Oper := rO c44_12
noncomputable def c44_13 : Code := (cR c44_11)
noncomputable def o44_7 : Array Oper := rO c44_13
noncomputable def c44_14 : Code := (cL c44_7)
noncomputable def o44_3 : Array Oper := rO (cL c44_14)
noncomputable def c44_15 : Code := (cR c44_14)
theorem o44_0_eq : opsW N M G 49 V44 o44_0 k o44_0.toList [] e e w =
    (M (Value.int IntKind.i64 0) fun t6 =>
    M (Value.bool false) fun t7 =>
    k (Env.p (Env.p e 6 t6) 7 t7) w) := nr (by kernel_rfl)
theorem o44_1_eq : opsW N M G 49 V44 o44_1 k o44_1.toList [] e e w =
    (M (e 0) fun t12 =>
    N (builtin Builtin.len #[27] 3 ([false]).toArray ([t12]).toArray) w fun t13 w =>
    M t13 fun t8 =>
    k (Env.p e 8 t8) w) := nr (by kernel_rfl)
theorem o44_2_eq : opsW N M G 49 V44 o44_2 k o44_2.toList [] e e w =
    (M (e 8) fun t14 =>
    M (Value.int IntKind.i64 0) fun t9 =>
    M t14 fun t10 =>
    k (Env.p (Env.p e 9 t9) 10 t10) w) := nr (by kernel_rfl)
theorem o44_8_eq : opsW N M G 49 V44 o44_8 k o44_8.toList [] e e w =
    (M (e 9) fun t35 =>
    M (e 9) fun t36 =>
    M (e 8) fun t37 =>
    N (xv (xbin BinOp.lss 3 (Operand.tmp 36) (Operand.tmp 37) t36 t37)) w fun t38 w =>
    M t38 fun t39 =>
    G (isB t39 true) (fun K => M (e 2) fun v => K v w) (fun t40 w =>
    G (isB t39 true) (fun K => M (e 0) fun v => K v w) (fun t41 w =>
    G (isB t39 true) (fun K => M (e 9) fun v => K v w) (fun t42 w =>
    G (isB t39 true) (fun K => N (xv (Instr.indexAt 27 t41 t42)) w K) (fun t43 w =>
    G (isB t39 true) (fun K => N (xv (Instr.loadAt 36 t43)) w K) (fun t44 w =>
    G (isB t39 true) (fun K => M (e 1) fun v => K v w) (fun t45 w =>
    G (isB t39 true) (fun K => N (xcall t40 [t44, t45]) w K) (fun t46 w =>
    G (isB t39 true) (fun K => N (xv (xbin BinOp.eql 3 (Operand.tmp 46) (Operand.const (Value.int IntKind.i64 0)) t46 (Value.int IntKind.i64 0))) w K) (fun t47 w =>
    N (xpick t39 t47 (Value.bool false)) w fun t48 w =>
    M t35 fun t6 =>
    M t48 fun t7 =>
    k (Env.p (Env.p e 6 t6) 7 t7) w) w) w) w) w) w) w) w) w) := nr (by kernel_rfl)
theorem c44_4_s (hw : Cur w) : W3 Try.prog 49 V44 c44_4 Q e w = (opsW (nx Try.prog) mv gdP 49 V44 o44_8 (fun e w => Q .ret e w) o44_8.toList [] e e w) := by rw [(by kernel_rfl : c44_4 = .seq (.region 8 o44_8 false) Code.ret), W3_seq_reg]; simp only [W3_ret, W3_skip, W3_exit, W3_label]
theorem o44_4_eq : opsW N M G 49 V44 o44_4 k o44_4.toList [] e e w =
    (M (e 9) fun t18 =>
    M (e 10) fun t19 =>
    N (xv (xbin BinOp.add 3 (Operand.tmp 18) (Operand.tmp 19) t18 t19)) w fun t20 w =>
    N (xv (convert 3 90 t20)) w fun t21 w =>
    N (xv (xbin BinOp.shr 90 (Operand.tmp 21) (Operand.const (Value.int IntKind.u64 1)) t21 (Value.int IntKind.u64 1))) w fun t22 w =>
    N (xv (convert 90 3 t22)) w fun t23 w =>
    M t23 fun t11 =>
    k (Env.p e 11 t11) w) := nr (by kernel_rfl)
theorem o44_5_eq : opsW N M G 49 V44 o44_5 k o44_5.toList [] e e w =
    (M (e 2) fun t24 =>
    M (e 0) fun t25 =>
    M (e 11) fun t26 =>
    N (xv (Instr.indexAt 27 t25 t26)) w fun t27 w =>
    N (xv (Instr.loadAt 36 t27)) w fun t28 w =>
    M (e 1) fun t29 =>
    N (xcall t24 [t28, t29]) w fun t30 w =>
    N (xv (xbin BinOp.lss 3 (Operand.tmp 30) (Operand.const (Value.int IntKind.i64 0)) t30 (Value.int IntKind.i64 0))) w fun t31 w =>
    k (Env.p e 31 t31) w) := nr (by kernel_rfl)
theorem o44_6_eq : opsW N M G 49 V44 o44_6 k o44_6.toList [] e e w =
    (M (e 11) fun t32 =>
    N (xv (xbin BinOp.add 3 (Operand.tmp 32) (Operand.const (Value.int IntKind.i64 1)) t32 (Value.int IntKind.i64 1))) w fun t33 w =>
    M t33 fun t9 =>
    k (Env.p e 9 t9) w) := nr (by kernel_rfl)
theorem c44_12_s (hw : Cur w) : W3 Try.prog 49 V44 c44_12 Q e w = (opsW (nx Try.prog) mv gdP 49 V44 o44_6 (fun e w => Q .normal e w) o44_6.toList [] e e w) := by rw [(by kernel_rfl : c44_12 = (.region 6 o44_6 false)), W3_reg]
theorem o44_7_eq : opsW N M G 49 V44 o44_7 k o44_7.toList [] e e w =
    (M (e 11) fun t34 =>
    M t34 fun t10 =>
    k (Env.p e 10 t10) w) := nr (by kernel_rfl)
theorem c44_13_s (hw : Cur w) : W3 Try.prog 49 V44 c44_13 Q e w = (opsW (nx Try.prog) mv gdP 49 V44 o44_7 (fun e w => Q .normal e w) o44_7.toList [] e e w) := by rw [(by kernel_rfl : c44_13 = (.region 7 o44_7 false)), W3_reg]
theorem c44_11_v : opV V44 (.tmp 31) = true := by kernel_rfl
theorem c44_11_s (hw : Cur w) : W3 Try.prog 49 V44 c44_11 Q e w = (condP (ev e (.tmp 31)) (W3 Try.prog 49 V44 c44_12 Q e w) (W3 Try.prog 49 V44 c44_13 Q e w)) := by rw [(by kernel_rfl : c44_11 = .cond (.tmp 31) c44_12 c44_13), W3_cond, c44_11_v, cond_true]
theorem c44_10_s (hw : Cur w) : W3 Try.prog 49 V44 c44_10 Q e w = (opsW (nx Try.prog) mv gdP 49 V44 o44_5 (fun e w => W3 Try.prog 49 V44 c44_11 Q e w) o44_5.toList [] e e w) := by rw [(by kernel_rfl : c44_10 = .seq (.region 5 o44_5 false) c44_11), W3_seq_reg]
theorem c44_9_s (hw : Cur w) : W3 Try.prog 49 V44 c44_9 Q e w = (opsW (nx Try.prog) mv gdP 49 V44 o44_4 (fun e w => W3 Try.prog 49 V44 c44_10 Q e w) o44_4.toList [] e e w) := by rw [(by kernel_rfl : c44_9 = .seq (.region 4 o44_4 false) c44_10), W3_seq_reg]
theorem c44_8_s (hw : Cur w) : W3 Try.prog 49 V44 c44_8 Q e w = (W3 Try.prog 49 V44 c44_9 (blockQ 1 Q) e w) := by rw [(by kernel_rfl : c44_8 = .block 1 c44_9), W3_block]
theorem o44_3_eq : opsW N M G 49 V44 o44_3 k o44_3.toList [] e e w =
    (M (e 9) fun t15 =>
    M (e 10) fun t16 =>
    N (xv (xbin BinOp.lss 3 (Operand.tmp 15) (Operand.tmp 16) t15 t16)) w fun t17 w =>
    k (Env.p e 17 t17) w) := nr (by kernel_rfl)
theorem c44_15_v : opV V44 (.tmp 17) = true := by kernel_rfl
theorem c44_15_s (hw : Cur w) : W3 Try.prog 49 V44 c44_15 Q e w = (condP (ev e (.tmp 17)) (Q .normal e w) (Q (.exit 0) e w)) := by rw [(by kernel_rfl : c44_15 = .cond (.tmp 17) Code.skip (Code.exit 0)), W3_cond, c44_15_v, cond_true]; simp only [W3_ret, W3_skip, W3_exit, W3_label]
theorem c44_14_s (hw : Cur w) : W3 Try.prog 49 V44 c44_14 Q e w = (opsW (nx Try.prog) mv gdP 49 V44 o44_3 (fun e w => W3 Try.prog 49 V44 c44_15 Q e w) o44_3.toList [] e e w) := by rw [(by kernel_rfl : c44_14 = .seq (.region 3 o44_3 false) c44_15), W3_seq_reg]
theorem c44_7_s (hw : Cur w) : W3 Try.prog 49 V44 c44_7 Q e w = (W3 Try.prog 49 V44 c44_14 (seqQ (fun e w => W3 Try.prog 49 V44 c44_8 Q e w) Q) e w) := by rw [(by kernel_rfl : c44_7 = .seq c44_14 c44_8), W3_seq]
theorem c44_6_s (hw : Cur w) : W3 Try.prog 49 V44 c44_6 Q e w = (LoopP (fun e w k => W3 Try.prog 49 V44 c44_7 (seqQ k Q) e w) e w) := by rw [(by kernel_rfl : c44_6 = .loop c44_7), W3_loop]
theorem c44_5_s (hw : Cur w) : W3 Try.prog 49 V44 c44_5 Q e w = (W3 Try.prog 49 V44 c44_6 (blockQ 0 Q) e w) := by rw [(by kernel_rfl : c44_5 = .block 0 c44_6), W3_block]
theorem c44_3_s (hw : Cur w) : W3 Try.prog 49 V44 c44_3 Q e w = (W3 Try.prog 49 V44 c44_5 (seqQ (fun e w => W3 Try.prog 49 V44 c44_4 Q e w) Q) e w) := by rw [(by kernel_rfl : c44_3 = .seq c44_5 c44_4), W3_seq]
theorem c44_2_s (hw : Cur w) : W3 Try.prog 49 V44 c44_2 Q e w = (opsW (nx Try.prog) mv gdP 49 V44 o44_2 (fun e w => W3 Try.prog 49 V44 c44_3 Q e w) o44_2.toList [] e e w) := by rw [(by kernel_rfl : c44_2 = .seq (.region 2 o44_2 false) c44_3), W3_seq_reg]
theorem c44_1_s (hw : Cur w) : W3 Try.prog 49 V44 c44_1 Q e w = (opsW (nx Try.prog) mv gdP 49 V44 o44_1 (fun e w => W3 Try.prog 49 V44 c44_2 Q e w) o44_1.toList [] e e w) := by rw [(by kernel_rfl : c44_1 = .seq (.region 1 o44_1 false) c44_2), W3_seq_reg]
theorem c44_s (hw : Cur w) : W3 Try.prog 49 V44 c44 Q e w = (opsW (nx Try.prog) mv gdP 49 V44 o44_0 (fun e w => W3 Try.prog 49 V44 c44_1 Q e w) o44_0.toList [] e e w) := by rw [(by kernel_rfl : c44 = .seq (.region 0 o44_0 false) c44_1), W3_seq_reg]
theorem call44 {a0 a1 a2 : Value} {w : World} {R : Value → World → Prop} (h : W3 Try.prog 49 V44 c44 (retQ Try.prog [.tmp 6, .tmp 7] R) (argE [a0, a1, a2]) w) : CallsN Try.prog 44 [a0, a1, a2] w R :=
  callsN_of_W3 (c := c44) (rs := [.tmp 6, .tmp 7]) V44 Try.ntmps44 (by rw [Try.results44]) mixed Try.func44 (by kernel_rfl) (by kernel_rfl) (by kernel_rfl) (by kernel_rfl) (by simp) h
noncomputable def hk44 := And.intro (@o44_0_eq) <| And.intro (@o44_1_eq) <| And.intro (@o44_2_eq) <| And.intro (@o44_8_eq) <| And.intro (@c44_4_s) <| And.intro (@o44_4_eq) <| And.intro (@o44_5_eq) <| And.intro (@o44_6_eq) <| And.intro (@c44_12_s) <| And.intro (@o44_7_eq) <| And.intro (@c44_13_s) <| And.intro (@c44_11_s) <| And.intro (@c44_10_s) <| And.intro (@c44_9_s) <| And.intro (@c44_8_s) <| And.intro (@o44_3_eq) <| And.intro (@c44_15_s) <| And.intro (@c44_14_s) <| And.intro (@c44_7_s) <| And.intro (@c44_6_s) <| And.intro (@c44_5_s) <| And.intro (@c44_3_s) <| And.intro (@c44_2_s) <| And.intro (@c44_1_s) <| @c44_s
-- K44: ↓hk44
/-! ### (*vouch/table.Table) . find$1 -/
def V45 : Nat → Bool := fun i => [0, 1, 2, 4].elem i
noncomputable def c45 : Code := (Try.f45.body.getD .skip)
noncomputable def o45_0 : Array Oper := rO (cL c45)
noncomputable def c45_1 : Code := (cR c45)
noncomputable def o45_1 : Array Oper := rO (cL c45_1)
theorem o45_0_eq : opsW N M G 10 V45 o45_0 k o45_0.toList [] e e w =
    (N (xv (Instr.box 36 (e 0))) w fun t2 w =>
    M (Value.int IntKind.i64 0) fun t4 =>
    k (Env.p (Env.p e 2 t2) 4 t4) w) := nr (by kernel_rfl)
theorem o45_1_eq : opsW N M G 10 V45 o45_1 k o45_1.toList [] e e w =
    (N (xv (Instr.fieldAt 36 (e 2) 0)) w fun t5 w =>
    N (xv (Instr.fieldAt 34 t5 2)) w fun t6 w =>
    N (xv (Instr.loadAt 2 t6)) w fun t7 w =>
    M (e 1) fun t8 =>
    N (xcall (Value.func (Fn.func 46) #[] #[]) [t7, t8]) w fun t9 w =>
    M t9 fun t4 =>
    k (Env.p e 4 t4) w) := nr (by kernel_rfl)
theorem c45_1_s (hw : Cur w) : W3 Try.prog 10 V45 c45_1 Q e w = (opsW (nx Try.prog) mv gdP 10 V45 o45_1 (fun e w => Q .ret e w) o45_1.toList [] e e w) := by rw [(by kernel_rfl : c45_1 = .seq (.region 1 o45_1 false) Code.ret), W3_seq_reg]; simp only [W3_ret, W3_skip, W3_exit, W3_label]
theorem c45_s (hw : Cur w) : W3 Try.prog 10 V45 c45 Q e w = (opsW (nx Try.prog) mv gdP 10 V45 o45_0 (fun e w => W3 Try.prog 10 V45 c45_1 Q e w) o45_0.toList [] e e w) := by rw [(by kernel_rfl : c45 = .seq (.region 0 o45_0 false) c45_1), W3_seq_reg]
theorem call45 {a0 a1 : Value} {w : World} {R : Value → World → Prop} (h : W3 Try.prog 10 V45 c45 (retQ Try.prog [.tmp 4] R) (argE [a0, a1]) w) : CallsN Try.prog 45 [a0, a1] w R :=
  callsN_of_W3 (c := c45) (rs := [.tmp 4]) V45 Try.ntmps45 (by rw [Try.results45]) mixed Try.func45 (by kernel_rfl) (by kernel_rfl) (by kernel_rfl) (by kernel_rfl) (by simp) h
noncomputable def hk45 := And.intro (@o45_0_eq) <| And.intro (@o45_1_eq) <| And.intro (@c45_1_s) <| @c45_s
-- K45: ↓hk45
/-! ### cmp.Compare[int64] -/
def V46 : Nat → Bool := fun i => [0, 1, 4, 5, 6, 11, 12, 13, 16, 19].elem i
noncomputable def c46 : Code := (Try.f46.body.getD .skip)
noncomputable def o46_0 : Array Oper := rO (cL c46)
noncomputable def c46_1 : Code := (cR c46)
noncomputable def o46_1 : Array Oper := rO (cL c46_1)
noncomputable def c46_2 : Code := (cR c46_1)
noncomputable def o46_2 : Array Oper := rO (cL c46_2)
noncomputable def c46_3 : Code := (cR c46_2)
noncomputable def c46_4 : Code := (cR c46_3)
noncomputable def c46_5 : Code := (cR c46_4)
noncomputable def c46_6 : Code := (cR c46_5)
noncomputable def c46_7 : Code := (cR c46_6)
noncomputable def o46_13 : Array Oper := rO (cL c46_7)
noncomputable def c46_8 : Code := (cL c46_6)
noncomputable def o46_11 : Array Oper := rO (cL c46_8)
noncomputable def c46_9 : Code := (cR c46_8)
noncomputable def c46_10 : Code := (cL c46_9)
noncomputable def o46_12 : Array Oper := rO (cL c46_10)
noncomputable def c46_11 : Code := (cL c46_5)
noncomputable def o46_9 : Array Oper := rO (cL c46_11)
noncomputable def c46_12 : Code := (cR c46_11)
noncomputable def c46_13 : Code := (cL c46_12)
noncomputable def o46_10 : Array Oper := rO (cL c46_13)
noncomputable def c46_14 : Code := (cL c46_4)
noncomputable def o46_7 : Array Oper := rO (cL c46_14)
noncomputable def c46_15 : Code := (cR c46_14)
noncomputable def c46_16 : Code := (cL c46_15)
noncomputable def o46_8 : Array Oper := rO (cL c46_16)
noncomputable def c46_17 : Code := (cL c46_3)
noncomputable def o46_3 : Array Oper := rO (cL c46_17)
noncomputable def c46_18 : Code := (cR c46_17)
noncomputable def c46_19 : Code := (cL c46_18)
noncomputable def c46_20 : Code := (cR c46_19)
noncomputable def o46_6 : Array Oper := rO (cL c46_20)
noncomputable def c46_21 : Code := (cL c46_19)
noncomputable def o46_4 : Array Oper := rO (cL c46_21)
noncomputable def c46_22 : Code := (cR c46_21)
noncomputable def c46_23 : Code := (cL c46_22)
noncomputable def o46_5 : Array Oper := rO (cL c46_23)
theorem o46_0_eq : opsW N M G 20 V46 o46_0 k o46_0.toList [] e e w =
    (M (Value.int IntKind.i64 0) fun t4 =>
    k (Env.p e 4 t4) w) := nr (by kernel_rfl)
theorem o46_1_eq : opsW N M G 20 V46 o46_1 k o46_1.toList [] e e w =
    (M (e 0) fun t7 =>
    N (xcall (Value.func (Fn.func 60) #[] #[]) [t7]) w fun t8 w =>
    M t8 fun t5 =>
    k (Env.p e 5 t5) w) := nr (by kernel_rfl)
theorem o46_2_eq : opsW N M G 20 V46 o46_2 k o46_2.toList [] e e w =
    (M (e 1) fun t9 =>
    N (xcall (Value.func (Fn.func 60) #[] #[]) [t9]) w fun t10 w =>
    M t10 fun t6 =>
    k (Env.p e 6 t6) w) := nr (by kernel_rfl)
theorem o46_13_eq : opsW N M G 20 V46 o46_13 k o46_13.toList [] e e w =
    (M (Value.int IntKind.i64 0) fun t4 =>
    k (Env.p e 4 t4) w) := nr (by kernel_rfl)
theorem c46_7_s (hw : Cur w) : W3 Try.prog 20 V46 c46_7 Q e w = (opsW (nx Try.prog) mv gdP 20 V46 o46_13 (fun e w => Q .ret e w) o46_13.toList [] e e w) := by rw [(by kernel_rfl : c46_7 = .seq (.region 13 o46_13 false) Code.ret), W3_seq_reg]; simp only [W3_ret, W3_skip, W3_exit, W3_label]
theorem o46_11_eq : opsW N M G 20 V46 o46_11 k o46_11.toList [] e e w =
    (M (e 0) fun t17 =>
    M (e 1) fun t18 =>
    N (xv (xbin BinOp.gtr 2 (Operand.tmp 17) (Operand.tmp 18) t17 t18)) w fun t19 w =>
    k (Env.p e 19 t19) w) := nr (by kernel_rfl)
theorem o46_12_eq : opsW N M G 20 V46 o46_12 k o46_12.toList [] e e w =
    (M (Value.int IntKind.i64 1) fun t4 =>
    k (Env.p e 4 t4) w) := nr (by kernel_rfl)
theorem c46_10_s (hw : Cur w) : W3 Try.prog 20 V46 c46_10 Q e w = (opsW (nx Try.prog) mv gdP 20 V46 o46_12 (fun e w => Q .ret e w) o46_12.toList [] e e w) := by rw [(by kernel_rfl : c46_10 = .seq (.region 12 o46_12 false) Code.ret), W3_seq_reg]; simp only [W3_ret, W3_skip, W3_exit, W3_label]
theorem c46_9_v : opV V46 (.tmp 19) = true := by kernel_rfl
theorem c46_9_s (hw : Cur w) : W3 Try.prog 20 V46 c46_9 Q e w = (condP (ev e (.tmp 19)) (W3 Try.prog 20 V46 c46_10 Q e w) (Q .normal e w)) := by rw [(by kernel_rfl : c46_9 = .cond (.tmp 19) c46_10 Code.skip), W3_cond, c46_9_v, cond_true]; simp only [W3_ret, W3_skip, W3_exit, W3_label]
theorem c46_8_s (hw : Cur w) : W3 Try.prog 20 V46 c46_8 Q e w = (opsW (nx Try.prog) mv gdP 20 V46 o46_11 (fun e w => W3 Try.prog 20 V46 c46_9 Q e w) o46_11.toList [] e e w) := by rw [(by kernel_rfl : c46_8 = .seq (.region 11 o46_11 false) c46_9), W3_seq_reg]
theorem c46_6_s (hw : Cur w) : W3 Try.prog 20 V46 c46_6 Q e w = (W3 Try.prog 20 V46 c46_8 (seqQ (fun e w => W3 Try.prog 20 V46 c46_7 Q e w) Q) e w) := by rw [(by kernel_rfl : c46_6 = .seq c46_8 c46_7), W3_seq]
theorem o46_9_eq : opsW N M G 20 V46 o46_9 k o46_9.toList [] e e w =
    (M (e 0) fun t14 =>
    M (e 1) fun t15 =>
    N (xv (xbin BinOp.lss 2 (Operand.tmp 14) (Operand.tmp 15) t14 t15)) w fun t16 w =>
    k (Env.p e 16 t16) w) := nr (by kernel_rfl)
theorem o46_10_eq : opsW N M G 20 V46 o46_10 k o46_10.toList [] e e w =
    (M (Value.int IntKind.i64 (-1)) fun t4 =>
    k (Env.p e 4 t4) w) := nr (by kernel_rfl)
theorem c46_13_s (hw : Cur w) : W3 Try.prog 20 V46 c46_13 Q e w = (opsW (nx Try.prog) mv gdP 20 V46 o46_10 (fun e w => Q .ret e w) o46_10.toList [] e e w) := by rw [(by kernel_rfl : c46_13 = .seq (.region 10 o46_10 false) Code.ret), W3_seq_reg]; simp only [W3_ret, W3_skip, W3_exit, W3_label]
theorem c46_12_v : opV V46 (.tmp 16) = true := by kernel_rfl
theorem c46_12_s (hw : Cur w) : W3 Try.prog 20 V46 c46_12 Q e w = (condP (ev e (.tmp 16)) (W3 Try.prog 20 V46 c46_13 Q e w) (Q .normal e w)) := by rw [(by kernel_rfl : c46_12 = .cond (.tmp 16) c46_13 Code.skip), W3_cond, c46_12_v, cond_true]; simp only [W3_ret, W3_skip, W3_exit, W3_label]
theorem c46_11_s (hw : Cur w) : W3 Try.prog 20 V46 c46_11 Q e w = (opsW (nx Try.prog) mv gdP 20 V46 o46_9 (fun e w => W3 Try.prog 20 V46 c46_12 Q e w) o46_9.toList [] e e w) := by rw [(by kernel_rfl : c46_11 = .seq (.region 9 o46_9 false) c46_12), W3_seq_reg]
theorem c46_5_s (hw : Cur w) : W3 Try.prog 20 V46 c46_5 Q e w = (W3 Try.prog 20 V46 c46_11 (seqQ (fun e w => W3 Try.prog 20 V46 c46_6 Q e w) Q) e w) := by rw [(by kernel_rfl : c46_5 = .seq c46_11 c46_6), W3_seq]
theorem o46_7_eq : opsW N M G 20 V46 o46_7 k o46_7.toList [] e e w =
    (M (e 6) fun t13 =>
    k (Env.p e 13 t13) w) := nr (by kernel_rfl)
theorem o46_8_eq : opsW N M G 20 V46 o46_8 k o46_8.toList [] e e w =
    (M (Value.int IntKind.i64 1) fun t4 =>
    k (Env.p e 4 t4) w) := nr (by kernel_rfl)
theorem c46_16_s (hw : Cur w) : W3 Try.prog 20 V46 c46_16 Q e w = (opsW (nx Try.prog) mv gdP 20 V46 o46_8 (fun e w => Q .ret e w) o46_8.toList [] e e w) := by rw [(by kernel_rfl : c46_16 = .seq (.region 8 o46_8 false) Code.ret), W3_seq_reg]; simp only [W3_ret, W3_skip, W3_exit, W3_label]
theorem c46_15_v : opV V46 (.tmp 13) = true := by kernel_rfl
theorem c46_15_s (hw : Cur w) : W3 Try.prog 20 V46 c46_15 Q e w = (condP (ev e (.tmp 13)) (W3 Try.prog 20 V46 c46_16 Q e w) (Q .normal e w)) := by rw [(by kernel_rfl : c46_15 = .cond (.tmp 13) c46_16 Code.skip), W3_cond, c46_15_v, cond_true]; simp only [W3_ret, W3_skip, W3_exit, W3_label]
theorem c46_14_s (hw : Cur w) : W3 Try.prog 20 V46 c46_14 Q e w = (opsW (nx Try.prog) mv gdP 20 V46 o46_7 (fun e w => W3 Try.prog 20 V46 c46_15 Q e w) o46_7.toList [] e e w) := by rw [(by kernel_rfl : c46_14 = .seq (.region 7 o46_7 false) c46_15), W3_seq_reg]
theorem c46_4_s (hw : Cur w) : W3 Try.prog 20 V46 c46_4 Q e w = (W3 Try.prog 20 V46 c46_14 (seqQ (fun e w => W3 Try.prog 20 V46 c46_5 Q e w) Q) e w) := by rw [(by kernel_rfl : c46_4 = .seq c46_14 c46_5), W3_seq]
theorem o46_3_eq : opsW N M G 20 V46 o46_3 k o46_3.toList [] e e w =
    (M (e 5) fun t11 =>
    k (Env.p e 11 t11) w) := nr (by kernel_rfl)
theorem o46_6_eq : opsW N M G 20 V46 o46_6 k o46_6.toList [] e e w =
    (M (Value.int IntKind.i64 (-1)) fun t4 =>
    k (Env.p e 4 t4) w) := nr (by kernel_rfl)
theorem c46_20_s (hw : Cur w) : W3 Try.prog 20 V46 c46_20 Q e w = (opsW (nx Try.prog) mv gdP 20 V46 o46_6 (fun e w => Q .ret e w) o46_6.toList [] e e w) := by rw [(by kernel_rfl : c46_20 = .seq (.region 6 o46_6 false) Code.ret), W3_seq_reg]; simp only [W3_ret, W3_skip, W3_exit, W3_label]
theorem o46_4_eq : opsW N M G 20 V46 o46_4 k o46_4.toList [] e e w =
    (M (e 6) fun t12 =>
    k (Env.p e 12 t12) w) := nr (by kernel_rfl)
theorem o46_5_eq : opsW N M G 20 V46 o46_5 k o46_5.toList [] e e w =
    (M (Value.int IntKind.i64 0) fun t4 =>
    k (Env.p e 4 t4) w) := nr (by kernel_rfl)
theorem c46_23_s (hw : Cur w) : W3 Try.prog 20 V46 c46_23 Q e w = (opsW (nx Try.prog) mv gdP 20 V46 o46_5 (fun e w => Q .ret e w) o46_5.toList [] e e w) := by rw [(by kernel_rfl : c46_23 = .seq (.region 5 o46_5 false) Code.ret), W3_seq_reg]; simp only [W3_ret, W3_skip, W3_exit, W3_label]
theorem c46_22_v : opV V46 (.tmp 12) = true := by kernel_rfl
theorem c46_22_s (hw : Cur w) : W3 Try.prog 20 V46 c46_22 Q e w = (condP (ev e (.tmp 12)) (W3 Try.prog 20 V46 c46_23 Q e w) (Q .normal e w)) := by rw [(by kernel_rfl : c46_22 = .cond (.tmp 12) c46_23 Code.skip), W3_cond, c46_22_v, cond_true]; simp only [W3_ret, W3_skip, W3_exit, W3_label]
theorem c46_21_s (hw : Cur w) : W3 Try.prog 20 V46 c46_21 Q e w = (opsW (nx Try.prog) mv gdP 20 V46 o46_4 (fun e w => W3 Try.prog 20 V46 c46_22 Q e w) o46_4.toList [] e e w) := by rw [(by kernel_rfl : c46_21 = .seq (.region 4 o46_4 false) c46_22), W3_seq_reg]
theorem c46_19_s (hw : Cur w) : W3 Try.prog 20 V46 c46_19 Q e w = (W3 Try.prog 20 V46 c46_21 (seqQ (fun e w => W3 Try.prog 20 V46 c46_20 Q e w) Q) e w) := by rw [(by kernel_rfl : c46_19 = .seq c46_21 c46_20), W3_seq]
theorem c46_18_v : opV V46 (.tmp 11) = true := by kernel_rfl
theorem c46_18_s (hw : Cur w) : W3 Try.prog 20 V46 c46_18 Q e w = (condP (ev e (.tmp 11)) (W3 Try.prog 20 V46 c46_19 Q e w) (Q .normal e w)) := by rw [(by kernel_rfl : c46_18 = .cond (.tmp 11) c46_19 Code.skip), W3_cond, c46_18_v, cond_true]; simp only [W3_ret, W3_skip, W3_exit, W3_label]
theorem c46_17_s (hw : Cur w) : W3 Try.prog 20 V46 c46_17 Q e w = (opsW (nx Try.prog) mv gdP 20 V46 o46_3 (fun e w => W3 Try.prog 20 V46 c46_18 Q e w) o46_3.toList [] e e w) := by rw [(by kernel_rfl : c46_17 = .seq (.region 3 o46_3 false) c46_18), W3_seq_reg]
theorem c46_3_s (hw : Cur w) : W3 Try.prog 20 V46 c46_3 Q e w = (W3 Try.prog 20 V46 c46_17 (seqQ (fun e w => W3 Try.prog 20 V46 c46_4 Q e w) Q) e w) := by rw [(by kernel_rfl : c46_3 = .seq c46_17 c46_4), W3_seq]
theorem c46_2_s (hw : Cur w) : W3 Try.prog 20 V46 c46_2 Q e w = (opsW (nx Try.prog) mv gdP 20 V46 o46_2 (fun e w => W3 Try.prog 20 V46 c46_3 Q e w) o46_2.toList [] e e w) := by rw [(by kernel_rfl : c46_2 = .seq (.region 2 o46_2 false) c46_3), W3_seq_reg]
theorem c46_1_s (hw : Cur w) : W3 Try.prog 20 V46 c46_1 Q e w = (opsW (nx Try.prog) mv gdP 20 V46 o46_1 (fun e w => W3 Try.prog 20 V46 c46_2 Q e w) o46_1.toList [] e e w) := by rw [(by kernel_rfl : c46_1 = .seq (.region 1 o46_1 false) c46_2), W3_seq_reg]
theorem c46_s (hw : Cur w) : W3 Try.prog 20 V46 c46 Q e w = (opsW (nx Try.prog) mv gdP 20 V46 o46_0 (fun e w => W3 Try.prog 20 V46 c46_1 Q e w) o46_0.toList [] e e w) := by rw [(by kernel_rfl : c46 = .seq (.region 0 o46_0 false) c46_1), W3_seq_reg]
theorem call46 {a0 a1 : Value} {w : World} {R : Value → World → Prop} (h : W3 Try.prog 20 V46 c46 (retQ Try.prog [.tmp 4] R) (argE [a0, a1]) w) : CallsN Try.prog 46 [a0, a1] w R :=
  callsN_of_W3 (c := c46) (rs := [.tmp 4]) V46 Try.ntmps46 (by rw [Try.results46]) mixed Try.func46 (by kernel_rfl) (by kernel_rfl) (by kernel_rfl) (by kernel_rfl) (by simp) h
noncomputable def hk46 := And.intro (@o46_0_eq) <| And.intro (@o46_1_eq) <| And.intro (@o46_2_eq) <| And.intro (@o46_13_eq) <| And.intro (@c46_7_s) <| And.intro (@o46_11_eq) <| And.intro (@o46_12_eq) <| And.intro (@c46_10_s) <| And.intro (@c46_9_s) <| And.intro (@c46_8_s) <| And.intro (@c46_6_s) <| And.intro (@o46_9_eq) <| And.intro (@o46_10_eq) <| And.intro (@c46_13_s) <| And.intro (@c46_12_s) <| And.intro (@c46_11_s) <| And.intro (@c46_5_s) <| And.intro (@o46_7_eq) <| And.intro (@o46_8_eq) <| And.intro (@c46_16_s) <| And.intro (@c46_15_s) <| And.intro (@c46_14_s) <| And.intro (@c46_4_s) <| And.intro (@o46_3_eq) <| And.intro (@o46_6_eq) <| And.intro (@c46_20_s) <| And.intro (@o46_4_eq) <| And.intro (@o46_5_eq) <| And.intro (@c46_23_s) <| And.intro (@c46_22_s) <| And.intro (@c46_21_s) <| And.intro (@c46_19_s) <| And.intro (@c46_18_s) <| And.intro (@c46_17_s) <| And.intro (@c46_3_s) <| And.intro (@c46_2_s) <| And.intro (@c46_1_s) <| @c46_s
-- K46: ↓hk46
/-! ### cmp.isNaN[int64] -/
def V60 : Nat → Bool := fun i => [0, 2].elem i
noncomputable def c60 : Code := (Try.f60.body.getD .skip)
noncomputable def o60_0 : Array Oper := rO (cL c60)
noncomputable def c60_1 : Code := (cR c60)
noncomputable def o60_1 : Array Oper := rO (cL c60_1)
theorem o60_0_eq : opsW N M G 6 V60 o60_0 k o60_0.toList [] e e w =
    (M (Value.bool false) fun t2 =>
    k (Env.p e 2 t2) w) := nr (by kernel_rfl)
theorem o60_1_eq : opsW N M G 6 V60 o60_1 k o60_1.toList [] e e w =
    (M (e 0) fun t3 =>
    M (e 0) fun t4 =>
    N (xv (xbin BinOp.neq 2 (Operand.tmp 3) (Operand.tmp 4) t3 t4)) w fun t5 w =>
    M t5 fun t2 =>
    k (Env.p e 2 t2) w) := nr (by kernel_rfl)
theorem c60_1_s (hw : Cur w) : W3 Try.prog 6 V60 c60_1 Q e w = (opsW (nx Try.prog) mv gdP 6 V60 o60_1 (fun e w => Q .ret e w) o60_1.toList [] e e w) := by rw [(by kernel_rfl : c60_1 = .seq (.region 1 o60_1 false) Code.ret), W3_seq_reg]; simp only [W3_ret, W3_skip, W3_exit, W3_label]
theorem c60_s (hw : Cur w) : W3 Try.prog 6 V60 c60 Q e w = (opsW (nx Try.prog) mv gdP 6 V60 o60_0 (fun e w => W3 Try.prog 6 V60 c60_1 Q e w) o60_0.toList [] e e w) := by rw [(by kernel_rfl : c60 = .seq (.region 0 o60_0 false) c60_1), W3_seq_reg]
theorem call60 {a0 : Value} {w : World} {R : Value → World → Prop} (h : W3 Try.prog 6 V60 c60 (retQ Try.prog [.tmp 2] R) (argE [a0]) w) : CallsN Try.prog 60 [a0] w R :=
  callsN_of_W3 (c := c60) (rs := [.tmp 2]) V60 Try.ntmps60 (by rw [Try.results60]) mixed Try.func60 (by kernel_rfl) (by kernel_rfl) (by kernel_rfl) (by kernel_rfl) (by simp) h
noncomputable def hk60 := And.intro (@o60_0_eq) <| And.intro (@o60_1_eq) <| And.intro (@c60_1_s) <| @c60_s
-- K60: ↓hk60
/-! ### vouch/fact.Known -/
def V49 : Nat → Bool := fun i => [0, 1, 2, 4, 7].elem i
noncomputable def c49 : Code := (Try.f49.body.getD .skip)
noncomputable def o49_0 : Array Oper := rO (cL c49)
noncomputable def c49_1 : Code := (cR c49)
noncomputable def c49_2 : Code := (cR c49_1)
noncomputable def o49_3 : Array Oper := rO (cL c49_2)
noncomputable def c49_3 : Code := (cL c49_1)
noncomputable def o49_1 : Array Oper := rO (cL c49_3)
noncomputable def c49_4 : Code := (cR c49_3)
noncomputable def c49_5 : Code := (cL c49_4)
noncomputable def o49_2 : Array Oper := rO (cL c49_5)
theorem o49_0_eq : opsW N M G 18 V49 o49_0 k o49_0.toList [] e e w =
    (N (xv (Instr.box 34 (e 0))) w fun t2 w =>
    N (xv (Instr.alloc 78 true (.tuple #[]))) w fun t4 w =>
    k (Env.p (Env.p e 2 t2) 4 t4) w) := nr (by kernel_rfl)
theorem o49_3_eq : opsW N M G 18 V49 o49_3 k o49_3.toList [] e e w =
    (N (xv (Instr.fieldAt 34 (e 2) 2)) w fun t13 w =>
    N (xv (Instr.loadAt 2 t13)) w fun t14 w =>
    N (xv (Instr.fieldAt 34 (e 2) 3)) w fun t15 w =>
    N (xv (Instr.loadAt 2 t15)) w fun t16 w =>
    N (xcall (Value.func (Fn.func 62) #[] #[]) [t14, t16]) w fun t17 w =>
    N (xu (Instr.storeAt 78 (e 4) t17)) w fun _ w =>
    k e w) := nr (by kernel_rfl)
theorem c49_2_s (hw : Cur w) : W3 Try.prog 18 V49 c49_2 Q e w = (opsW (nx Try.prog) mv gdP 18 V49 o49_3 (fun e w => Q .ret e w) o49_3.toList [] e e w) := by rw [(by kernel_rfl : c49_2 = .seq (.region 3 o49_3 false) Code.ret), W3_seq_reg]; simp only [W3_ret, W3_skip, W3_exit, W3_label]
theorem o49_1_eq : opsW N M G 18 V49 o49_1 k o49_1.toList [] e e w =
    (N (xv (Instr.fieldAt 34 (e 2) 3)) w fun t5 w =>
    N (xv (Instr.loadAt 2 t5)) w fun t6 w =>
    N (xv (xbin BinOp.eql 2 (Operand.tmp 6) (Operand.const (Value.int IntKind.i64 4611686018427387904)) t6 (Value.int IntKind.i64 4611686018427387904))) w fun t7 w =>
    k (Env.p e 7 t7) w) := nr (by kernel_rfl)
theorem o49_2_eq : drawGo3 N T3 M G H 18 V49 o49_2 (puK o49_2) k o49_2.size [] (Array.replicate o49_2.size false) [] e e w =
    (T3 (FrX none w) (xv (Instr.fieldAt 34 (e 2) 2)) fun t8 =>
    T3 (FrX (some []) w) (xv (Instr.loadAt 2 t8)) fun t9 =>
    M (e 1) fun t10 =>
    N (xcall (Value.func (Fn.func 63) #[] #[]) [t10]) w fun t11 w3 =>
    FrX (some []) w w3 ∧ (N (xcall (Value.func (Fn.func 62) #[] #[]) [t9, t11]) w3 fun t12 w4 =>
    N (xu (Instr.storeAt 78 (e 4) t12)) w4 fun _ w5 =>
    (k e) w5)) := nr (by kernel_rfl)
theorem c49_5_s (hw : Cur w) : W3 Try.prog 18 V49 c49_5 Q e w = (drawGo3 (nx Try.prog) (takeP Try.prog) mv gdP gdT 18 V49 o49_2 (puK o49_2) (fun e w => Q .ret e w) o49_2.size [] (Array.replicate o49_2.size false) [] e e w.drew) := by rw [(by kernel_rfl : c49_5 = .seq (.region 2 o49_2 true) Code.ret), W3_seq_regD]; simp only [W3_ret, W3_skip, W3_exit, W3_label]
theorem c49_4_v : opV V49 (.tmp 7) = true := by kernel_rfl
theorem c49_4_s (hw : Cur w) : W3 Try.prog 18 V49 c49_4 Q e w = (condP (ev e (.tmp 7)) (W3 Try.prog 18 V49 c49_5 Q e w) (Q .normal e w)) := by rw [(by kernel_rfl : c49_4 = .cond (.tmp 7) c49_5 Code.skip), W3_cond, c49_4_v, cond_true]; simp only [W3_ret, W3_skip, W3_exit, W3_label]
theorem c49_3_s (hw : Cur w) : W3 Try.prog 18 V49 c49_3 Q e w = (opsW (nx Try.prog) mv gdP 18 V49 o49_1 (fun e w => W3 Try.prog 18 V49 c49_4 Q e w) o49_1.toList [] e e w) := by rw [(by kernel_rfl : c49_3 = .seq (.region 1 o49_1 false) c49_4), W3_seq_reg]
theorem c49_1_s (hw : Cur w) : W3 Try.prog 18 V49 c49_1 Q e w = (W3 Try.prog 18 V49 c49_3 (seqQ (fun e w => W3 Try.prog 18 V49 c49_2 Q e w) Q) e w) := by rw [(by kernel_rfl : c49_1 = .seq c49_3 c49_2), W3_seq]
theorem c49_s (hw : Cur w) : W3 Try.prog 18 V49 c49 Q e w = (opsW (nx Try.prog) mv gdP 18 V49 o49_0 (fun e w => W3 Try.prog 18 V49 c49_1 Q e w) o49_0.toList [] e e w) := by rw [(by kernel_rfl : c49 = .seq (.region 0 o49_0 false) c49_1), W3_seq_reg]
theorem call49 {a0 a1 : Value} {w : World} {R : Value → World → Prop} (h : W3 Try.prog 18 V49 c49 (retQ Try.prog [.cell 4 78] R) (argE [a0, a1]) w) : CallsN Try.prog 49 [a0, a1] w R :=
  callsN_of_W3 (c := c49) (rs := [.cell 4 78]) V49 Try.ntmps49 (by rw [Try.results49]) mixed Try.func49 (by kernel_rfl) (by kernel_rfl) (by kernel_rfl) (by kernel_rfl) (by simp) h
noncomputable def hk49 := And.intro (@o49_0_eq) <| And.intro (@o49_3_eq) <| And.intro (@c49_2_s) <| And.intro (@o49_1_eq) <| And.intro (@o49_2_eq) <| And.intro (@c49_5_s) <| And.intro (@c49_4_s) <| And.intro (@c49_3_s) <| And.intro (@c49_1_s) <| @c49_s
-- K49: ↓hk49
/-! ### (vouch/span.Span[int64]) . Meets -/
def V50 : Nat → Bool := fun i => [0, 1, 2, 3, 4].elem i
noncomputable def c50 : Code := (Try.f50.body.getD .skip)
noncomputable def o50_0 : Array Oper := rO (cL c50)
noncomputable def c50_1 : Code := (cR c50)
noncomputable def o50_1 : Array Oper := rO (cL c50_1)
theorem o50_0_eq : opsW N M G 20 V50 o50_0 k o50_0.toList [] e e w =
    (N (xv (Instr.box 78 (e 0))) w fun t2 w =>
    N (xv (Instr.box 78 (e 1))) w fun t3 w =>
    M (Value.bool false) fun t4 =>
    k (Env.p (Env.p (Env.p e 2 t2) 3 t3) 4 t4) w) := nr (by kernel_rfl)
theorem o50_1_eq : opsW N M G 20 V50 o50_1 k o50_1.toList [] e e w =
    (N (xv (Instr.loadAt 78 (e 2))) w fun t5 w =>
    N (xcall (Value.func (Fn.func 64) #[] #[]) [t5]) w fun t6 w =>
    N (xv (Op.unary UnOp.not t6)) w fun t7 w =>
    M t7 fun t8 =>
    G (isB t8 true) (fun K => N (xv (Instr.loadAt 78 (e 3))) w K) (fun t9 w =>
    G (isB t8 true) (fun K => N (xcall (Value.func (Fn.func 64) #[] #[]) [t9]) w K) (fun t10 w =>
    G (isB t8 true) (fun K => N (xv (Op.unary UnOp.not t10)) w K) (fun t11 w =>
    N (xpick t8 t11 (Value.bool false)) w fun t12 w =>
    M t12 fun t13 =>
    G (isB t13 true) (fun K => N (xv (Instr.loadAt 78 (e 2))) w K) (fun t14 w =>
    G (isB t13 true) (fun K => N (xv (Instr.loadAt 78 (e 3))) w K) (fun t15 w =>
    G (isB t13 true) (fun K => N (xcall (Value.func (Fn.func 65) #[] #[]) [t14, t15]) w K) (fun t16 w =>
    G (isB t13 true) (fun K => N (xcall (Value.func (Fn.func 64) #[] #[]) [t16]) w K) (fun t17 w =>
    G (isB t13 true) (fun K => N (xv (Op.unary UnOp.not t17)) w K) (fun t18 w =>
    N (xpick t13 t18 (Value.bool false)) w fun t19 w =>
    M t19 fun t4 =>
    k (Env.p e 4 t4) w) w) w) w) w) w) w) w) w) := nr (by kernel_rfl)
theorem c50_1_s (hw : Cur w) : W3 Try.prog 20 V50 c50_1 Q e w = (opsW (nx Try.prog) mv gdP 20 V50 o50_1 (fun e w => Q .ret e w) o50_1.toList [] e e w) := by rw [(by kernel_rfl : c50_1 = .seq (.region 1 o50_1 false) Code.ret), W3_seq_reg]; simp only [W3_ret, W3_skip, W3_exit, W3_label]
theorem c50_s (hw : Cur w) : W3 Try.prog 20 V50 c50 Q e w = (opsW (nx Try.prog) mv gdP 20 V50 o50_0 (fun e w => W3 Try.prog 20 V50 c50_1 Q e w) o50_0.toList [] e e w) := by rw [(by kernel_rfl : c50 = .seq (.region 0 o50_0 false) c50_1), W3_seq_reg]
theorem call50 {a0 a1 : Value} {w : World} {R : Value → World → Prop} (h : W3 Try.prog 20 V50 c50 (retQ Try.prog [.tmp 4] R) (argE [a0, a1]) w) : CallsN Try.prog 50 [a0, a1] w R :=
  callsN_of_W3 (c := c50) (rs := [.tmp 4]) V50 Try.ntmps50 (by rw [Try.results50]) mixed Try.func50 (by kernel_rfl) (by kernel_rfl) (by kernel_rfl) (by kernel_rfl) (by simp) h
noncomputable def hk50 := And.intro (@o50_0_eq) <| And.intro (@o50_1_eq) <| And.intro (@c50_1_s) <| @c50_s
-- K50: ↓hk50
/-! ### vouch/fact.pinned -/
def V51 : Nat → Bool := fun i => [0, 1, 2].elem i
noncomputable def c51 : Code := (Try.f51.body.getD .skip)
noncomputable def o51_0 : Array Oper := rO (cL c51)
noncomputable def c51_1 : Code := (cR c51)
noncomputable def o51_1 : Array Oper := rO (cL c51_1)
theorem o51_0_eq : opsW N M G 8 V51 o51_0 k o51_0.toList [] e e w =
    (N (xv (Instr.box 38 (e 0))) w fun t1 w =>
    N (xv (Instr.alloc 78 true (.tuple #[]))) w fun t2 w =>
    k (Env.p (Env.p e 1 t1) 2 t2) w) := nr (by kernel_rfl)
theorem o51_1_eq : opsW N M G 8 V51 o51_1 k o51_1.toList [] e e w =
    (N (xv (Instr.fieldAt 38 (e 1) 0)) w fun t3 w =>
    N (xv (Instr.loadAt 2 t3)) w fun t4 w =>
    N (xv (Instr.fieldAt 38 (e 1) 1)) w fun t5 w =>
    N (xv (Instr.loadAt 2 t5)) w fun t6 w =>
    N (xcall (Value.func (Fn.func 62) #[] #[]) [t4, t6]) w fun t7 w =>
    N (xu (Instr.storeAt 78 (e 2) t7)) w fun _ w =>
    k e w) := nr (by kernel_rfl)
theorem c51_1_s (hw : Cur w) : W3 Try.prog 8 V51 c51_1 Q e w = (opsW (nx Try.prog) mv gdP 8 V51 o51_1 (fun e w => Q .ret e w) o51_1.toList [] e e w) := by rw [(by kernel_rfl : c51_1 = .seq (.region 1 o51_1 false) Code.ret), W3_seq_reg]; simp only [W3_ret, W3_skip, W3_exit, W3_label]
theorem c51_s (hw : Cur w) : W3 Try.prog 8 V51 c51 Q e w = (opsW (nx Try.prog) mv gdP 8 V51 o51_0 (fun e w => W3 Try.prog 8 V51 c51_1 Q e w) o51_0.toList [] e e w) := by rw [(by kernel_rfl : c51 = .seq (.region 0 o51_0 false) c51_1), W3_seq_reg]
theorem call51 {a0 : Value} {w : World} {R : Value → World → Prop} (h : W3 Try.prog 8 V51 c51 (retQ Try.prog [.cell 2 78] R) (argE [a0]) w) : CallsN Try.prog 51 [a0] w R :=
  callsN_of_W3 (c := c51) (rs := [.cell 2 78]) V51 Try.ntmps51 (by rw [Try.results51]) mixed Try.func51 (by kernel_rfl) (by kernel_rfl) (by kernel_rfl) (by kernel_rfl) (by simp) h
noncomputable def hk51 := And.intro (@o51_0_eq) <| And.intro (@o51_1_eq) <| And.intro (@c51_1_s) <| @c51_s
-- K51: ↓hk51
/-! ### vouch/span.Of[int64] -/
def V62 : Nat → Bool := fun i => [0, 1, 4, 7].elem i
noncomputable def c62 : Code := (Try.f62.body.getD .skip)
noncomputable def o62_0 : Array Oper := rO (cL c62)
noncomputable def c62_1 : Code := (cR c62)
noncomputable def c62_2 : Code := (cR c62_1)
noncomputable def o62_3 : Array Oper := rO (cL c62_2)
noncomputable def c62_3 : Code := (cL c62_1)
noncomputable def o62_1 : Array Oper := rO (cL c62_3)
noncomputable def c62_4 : Code := (cR c62_3)
noncomputable def c62_5 : Code := (cL c62_4)
noncomputable def o62_2 : Array Oper := rO (cL c62_5)
theorem o62_0_eq : opsW N M G 12 V62 o62_0 k o62_0.toList [] e e w =
    (N (xv (Instr.alloc 78 true (.tuple #[]))) w fun t4 w =>
    k (Env.p e 4 t4) w) := nr (by kernel_rfl)
theorem o62_3_eq : opsW N M G 12 V62 o62_3 k o62_3.toList [] e e w =
    (M (e 0) fun t9 =>
    M (e 1) fun t10 =>
    N (xv (Instr.build 78 ([(0, t9), (1, t10)]).toArray)) w fun t11 w =>
    N (xu (Instr.storeAt 78 (e 4) t11)) w fun _ w =>
    k e w) := nr (by kernel_rfl)
theorem c62_2_s (hw : Cur w) : W3 Try.prog 12 V62 c62_2 Q e w = (opsW (nx Try.prog) mv gdP 12 V62 o62_3 (fun e w => Q .ret e w) o62_3.toList [] e e w) := by rw [(by kernel_rfl : c62_2 = .seq (.region 3 o62_3 false) Code.ret), W3_seq_reg]; simp only [W3_ret, W3_skip, W3_exit, W3_label]
theorem o62_1_eq : opsW N M G 12 V62 o62_1 k o62_1.toList [] e e w =
    (M (e 0) fun t5 =>
    M (e 1) fun t6 =>
    N (xv (xbin BinOp.geq 2 (Operand.tmp 5) (Operand.tmp 6) t5 t6)) w fun t7 w =>
    k (Env.p e 7 t7) w) := nr (by kernel_rfl)
theorem o62_2_eq : opsW N M G 12 V62 o62_2 k o62_2.toList [] e e w =
    (N (xv (Instr.build 78 ([]).toArray)) w fun t8 w =>
    N (xu (Instr.storeAt 78 (e 4) t8)) w fun _ w =>
    k e w) := nr (by kernel_rfl)
theorem c62_5_s (hw : Cur w) : W3 Try.prog 12 V62 c62_5 Q e w = (opsW (nx Try.prog) mv gdP 12 V62 o62_2 (fun e w => Q .ret e w) o62_2.toList [] e e w) := by rw [(by kernel_rfl : c62_5 = .seq (.region 2 o62_2 false) Code.ret), W3_seq_reg]; simp only [W3_ret, W3_skip, W3_exit, W3_label]
theorem c62_4_v : opV V62 (.tmp 7) = true := by kernel_rfl
theorem c62_4_s (hw : Cur w) : W3 Try.prog 12 V62 c62_4 Q e w = (condP (ev e (.tmp 7)) (W3 Try.prog 12 V62 c62_5 Q e w) (Q .normal e w)) := by rw [(by kernel_rfl : c62_4 = .cond (.tmp 7) c62_5 Code.skip), W3_cond, c62_4_v, cond_true]; simp only [W3_ret, W3_skip, W3_exit, W3_label]
theorem c62_3_s (hw : Cur w) : W3 Try.prog 12 V62 c62_3 Q e w = (opsW (nx Try.prog) mv gdP 12 V62 o62_1 (fun e w => W3 Try.prog 12 V62 c62_4 Q e w) o62_1.toList [] e e w) := by rw [(by kernel_rfl : c62_3 = .seq (.region 1 o62_1 false) c62_4), W3_seq_reg]
theorem c62_1_s (hw : Cur w) : W3 Try.prog 12 V62 c62_1 Q e w = (W3 Try.prog 12 V62 c62_3 (seqQ (fun e w => W3 Try.prog 12 V62 c62_2 Q e w) Q) e w) := by rw [(by kernel_rfl : c62_1 = .seq c62_3 c62_2), W3_seq]
theorem c62_s (hw : Cur w) : W3 Try.prog 12 V62 c62 Q e w = (opsW (nx Try.prog) mv gdP 12 V62 o62_0 (fun e w => W3 Try.prog 12 V62 c62_1 Q e w) o62_0.toList [] e e w) := by rw [(by kernel_rfl : c62 = .seq (.region 0 o62_0 false) c62_1), W3_seq_reg]
theorem call62 {a0 a1 : Value} {w : World} {R : Value → World → Prop} (h : W3 Try.prog 12 V62 c62 (retQ Try.prog [.cell 4 78] R) (argE [a0, a1]) w) : CallsN Try.prog 62 [a0, a1] w R :=
  callsN_of_W3 (c := c62) (rs := [.cell 4 78]) V62 Try.ntmps62 (by rw [Try.results62]) mixed Try.func62 (by kernel_rfl) (by kernel_rfl) (by kernel_rfl) (by kernel_rfl) (by simp) h
noncomputable def hk62 := And.intro (@o62_0_eq) <| And.intro (@o62_3_eq) <| And.intro (@c62_2_s) <| And.intro (@o62_1_eq) <| And.intro (@o62_2_eq) <| And.intro (@c62_5_s) <| And.intro (@c62_4_s) <| And.intro (@c62_3_s) <| And.intro (@c62_1_s) <| @c62_s
-- K62: ↓hk62
/-! ### vouch/fact.behind -/
def V63 : Nat → Bool := fun i => [0, 2].elem i
noncomputable def c63 : Code := (Try.f63.body.getD .skip)
noncomputable def o63_0 : Array Oper := rO (cL c63)
noncomputable def c63_1 : Code := (cR c63)
noncomputable def o63_1 : Array Oper := rO (cL c63_1)
theorem o63_0_eq : opsW N M G 7 V63 o63_0 k o63_0.toList [] e e w =
    (M (Value.int IntKind.i64 0) fun t2 =>
    k (Env.p e 2 t2) w) := nr (by kernel_rfl)
theorem o63_1_eq : opsW N M G 7 V63 o63_1 k o63_1.toList [] e e w =
    (M (e 0) fun t3 =>
    N (builtin Builtin.max #[2, 2] 2 ([false, true]).toArray ([t3, (Value.int IntKind.i64 0)]).toArray) w fun t4 w =>
    N (builtin Builtin.min #[2, 2] 2 ([false, true]).toArray ([t4, (Value.int IntKind.i64 1099511627776)]).toArray) w fun t5 w =>
    N (xv (xbin BinOp.add 2 (Operand.tmp 5) (Operand.const (Value.int IntKind.i64 1)) t5 (Value.int IntKind.i64 1))) w fun t6 w =>
    M t6 fun t2 =>
    k (Env.p e 2 t2) w) := nr (by kernel_rfl)
theorem c63_1_s (hw : Cur w) : W3 Try.prog 7 V63 c63_1 Q e w = (opsW (nx Try.prog) mv gdP 7 V63 o63_1 (fun e w => Q .ret e w) o63_1.toList [] e e w) := by rw [(by kernel_rfl : c63_1 = .seq (.region 1 o63_1 false) Code.ret), W3_seq_reg]; simp only [W3_ret, W3_skip, W3_exit, W3_label]
theorem c63_s (hw : Cur w) : W3 Try.prog 7 V63 c63 Q e w = (opsW (nx Try.prog) mv gdP 7 V63 o63_0 (fun e w => W3 Try.prog 7 V63 c63_1 Q e w) o63_0.toList [] e e w) := by rw [(by kernel_rfl : c63 = .seq (.region 0 o63_0 false) c63_1), W3_seq_reg]
theorem call63 {a0 : Value} {w : World} {R : Value → World → Prop} (h : W3 Try.prog 7 V63 c63 (retQ Try.prog [.tmp 2] R) (argE [a0]) w) : CallsN Try.prog 63 [a0] w R :=
  callsN_of_W3 (c := c63) (rs := [.tmp 2]) V63 Try.ntmps63 (by rw [Try.results63]) mixed Try.func63 (by kernel_rfl) (by kernel_rfl) (by kernel_rfl) (by kernel_rfl) (by simp) h
noncomputable def hk63 := And.intro (@o63_0_eq) <| And.intro (@o63_1_eq) <| And.intro (@c63_1_s) <| @c63_s
-- K63: ↓hk63
/-! ### (vouch/span.Span[int64]) . Empty -/
def V64 : Nat → Bool := fun i => [0, 1, 2].elem i
noncomputable def c64 : Code := (Try.f64.body.getD .skip)
noncomputable def o64_0 : Array Oper := rO (cL c64)
noncomputable def c64_1 : Code := (cR c64)
noncomputable def o64_1 : Array Oper := rO (cL c64_1)
theorem o64_0_eq : opsW N M G 8 V64 o64_0 k o64_0.toList [] e e w =
    (N (xv (Instr.box 78 (e 0))) w fun t1 w =>
    M (Value.bool false) fun t2 =>
    k (Env.p (Env.p e 1 t1) 2 t2) w) := nr (by kernel_rfl)
theorem o64_1_eq : opsW N M G 8 V64 o64_1 k o64_1.toList [] e e w =
    (N (xv (Instr.fieldAt 78 (e 1) 0)) w fun t3 w =>
    N (xv (Instr.loadAt 2 t3)) w fun t4 w =>
    N (xv (Instr.fieldAt 78 (e 1) 1)) w fun t5 w =>
    N (xv (Instr.loadAt 2 t5)) w fun t6 w =>
    N (xv (xbin BinOp.geq 2 (Operand.tmp 4) (Operand.tmp 6) t4 t6)) w fun t7 w =>
    M t7 fun t2 =>
    k (Env.p e 2 t2) w) := nr (by kernel_rfl)
theorem c64_1_s (hw : Cur w) : W3 Try.prog 8 V64 c64_1 Q e w = (opsW (nx Try.prog) mv gdP 8 V64 o64_1 (fun e w => Q .ret e w) o64_1.toList [] e e w) := by rw [(by kernel_rfl : c64_1 = .seq (.region 1 o64_1 false) Code.ret), W3_seq_reg]; simp only [W3_ret, W3_skip, W3_exit, W3_label]
theorem c64_s (hw : Cur w) : W3 Try.prog 8 V64 c64 Q e w = (opsW (nx Try.prog) mv gdP 8 V64 o64_0 (fun e w => W3 Try.prog 8 V64 c64_1 Q e w) o64_0.toList [] e e w) := by rw [(by kernel_rfl : c64 = .seq (.region 0 o64_0 false) c64_1), W3_seq_reg]
theorem call64 {a0 : Value} {w : World} {R : Value → World → Prop} (h : W3 Try.prog 8 V64 c64 (retQ Try.prog [.tmp 2] R) (argE [a0]) w) : CallsN Try.prog 64 [a0] w R :=
  callsN_of_W3 (c := c64) (rs := [.tmp 2]) V64 Try.ntmps64 (by rw [Try.results64]) mixed Try.func64 (by kernel_rfl) (by kernel_rfl) (by kernel_rfl) (by kernel_rfl) (by simp) h
noncomputable def hk64 := And.intro (@o64_0_eq) <| And.intro (@o64_1_eq) <| And.intro (@c64_1_s) <| @c64_s
-- K64: ↓hk64
/-! ### (vouch/span.Span[int64]) . Meet -/
def V65 : Nat → Bool := fun i => [0, 1, 2, 3, 4].elem i
noncomputable def c65 : Code := (Try.f65.body.getD .skip)
noncomputable def o65_0 : Array Oper := rO (cL c65)
noncomputable def c65_1 : Code := (cR c65)
noncomputable def o65_1 : Array Oper := rO (cL c65_1)
theorem o65_0_eq : opsW N M G 16 V65 o65_0 k o65_0.toList [] e e w =
    (N (xv (Instr.box 78 (e 0))) w fun t2 w =>
    N (xv (Instr.box 78 (e 1))) w fun t3 w =>
    N (xv (Instr.alloc 78 true (.tuple #[]))) w fun t4 w =>
    k (Env.p (Env.p (Env.p e 2 t2) 3 t3) 4 t4) w) := nr (by kernel_rfl)
theorem o65_1_eq : opsW N M G 16 V65 o65_1 k o65_1.toList [] e e w =
    (N (xv (Instr.fieldAt 78 (e 2) 0)) w fun t5 w =>
    N (xv (Instr.loadAt 2 t5)) w fun t6 w =>
    N (xv (Instr.fieldAt 78 (e 3) 0)) w fun t7 w =>
    N (xv (Instr.loadAt 2 t7)) w fun t8 w =>
    N (builtin Builtin.max #[2, 2] 2 ([false, false]).toArray ([t6, t8]).toArray) w fun t9 w =>
    N (xv (Instr.fieldAt 78 (e 2) 1)) w fun t10 w =>
    N (xv (Instr.loadAt 2 t10)) w fun t11 w =>
    N (xv (Instr.fieldAt 78 (e 3) 1)) w fun t12 w =>
    N (xv (Instr.loadAt 2 t12)) w fun t13 w =>
    N (builtin Builtin.min #[2, 2] 2 ([false, false]).toArray ([t11, t13]).toArray) w fun t14 w =>
    N (xcall (Value.func (Fn.func 62) #[] #[]) [t9, t14]) w fun t15 w =>
    N (xu (Instr.storeAt 78 (e 4) t15)) w fun _ w =>
    k e w) := nr (by kernel_rfl)
theorem c65_1_s (hw : Cur w) : W3 Try.prog 16 V65 c65_1 Q e w = (opsW (nx Try.prog) mv gdP 16 V65 o65_1 (fun e w => Q .ret e w) o65_1.toList [] e e w) := by rw [(by kernel_rfl : c65_1 = .seq (.region 1 o65_1 false) Code.ret), W3_seq_reg]; simp only [W3_ret, W3_skip, W3_exit, W3_label]
theorem c65_s (hw : Cur w) : W3 Try.prog 16 V65 c65 Q e w = (opsW (nx Try.prog) mv gdP 16 V65 o65_0 (fun e w => W3 Try.prog 16 V65 c65_1 Q e w) o65_0.toList [] e e w) := by rw [(by kernel_rfl : c65 = .seq (.region 0 o65_0 false) c65_1), W3_seq_reg]
theorem call65 {a0 a1 : Value} {w : World} {R : Value → World → Prop} (h : W3 Try.prog 16 V65 c65 (retQ Try.prog [.cell 4 78] R) (argE [a0, a1]) w) : CallsN Try.prog 65 [a0, a1] w R :=
  callsN_of_W3 (c := c65) (rs := [.cell 4 78]) V65 Try.ntmps65 (by rw [Try.results65]) mixed Try.func65 (by kernel_rfl) (by kernel_rfl) (by kernel_rfl) (by kernel_rfl) (by simp) h
noncomputable def hk65 := And.intro (@o65_0_eq) <| And.intro (@o65_1_eq) <| And.intro (@c65_1_s) <| @c65_s
-- K65: ↓hk65
/-! ### vouch/vouchlaw10.TableNone -/
def V6 : Nat → Bool := fun i => [0, 1, 2, 3, 4, 5, 6, 7, 8, 10, 99].elem i
noncomputable def c6 : Code := (Try.f6.body.getD .skip)
noncomputable def o6_0 : Array Oper := rO (cL c6)
noncomputable def c6_1 : Code := (cR c6)
noncomputable def c6_2 : Code := (cR c6_1)
noncomputable def o6_3 : Array Oper := rO (cL c6_2)
noncomputable def c6_3 : Code := (cR c6_2)
noncomputable def o6_4 : Array Oper := rO (cL c6_3)
noncomputable def c6_4 : Code := (cR c6_3)
noncomputable def o6_5 : Array Oper := rO (cL c6_4)
noncomputable def c6_5 : Code := (cR c6_4)
noncomputable def c6_6 : Code := (cR c6_5)
noncomputable def o6_8 : Array Oper := rO (cL c6_6)
noncomputable def c6_7 : Code := (cR c6_6)
noncomputable def o6_9 : Array Oper := rO (cL c6_7)
noncomputable def c6_8 : Code := (cL c6_5)
noncomputable def o6_6 : Array Oper := rO (cL c6_8)
noncomputable def c6_9 : Code := (cR c6_8)
noncomputable def c6_10 : Code := (cL c6_9)
noncomputable def o6_7 : Array Oper := rO (cL c6_10)
noncomputable def c6_11 : Code := (cL c6_1)
noncomputable def o6_1 : Array Oper := rO (cL c6_11)
noncomputable def c6_12 : Code := (cR c6_11)
noncomputable def c6_13 : Code := (cL c6_12)
noncomputable def o6_2 : Array Oper := rO (cL c6_13)
theorem o6_0_eq : opsW N M G 110 V6 o6_0 k o6_0.toList [] e e w =
    (N (xv (Instr.box 40 (e 0))) w fun t1 w =>
    M (Value.bool false) fun t2 =>
    k (Env.p (Env.p e 1 t1) 2 t2) w) := nr (by kernel_rfl)
theorem o6_3_eq : opsW N M G 110 V6 o6_3 k o6_3.toList [] e e w =
    (M (Value.pointer none) fun t3 =>
    k (Env.p e 3 t3) w) := nr (by kernel_rfl)
theorem o6_4_eq : opsW N M G 110 V6 o6_4 k o6_4.toList [] e e w =
    (M (e 3) fun t12 =>
    N (xv (Instr.fieldAt 40 (e 1) 1)) w fun t13 w =>
    N (xv (Instr.fieldAt 36 t13 0)) w fun t14 w =>
    N (xv (Instr.fieldAt 34 t14 0)) w fun t15 w =>
    N (xv (Instr.loadAt 9 t15)) w fun t16 w =>
    N (xv (Instr.fieldAt 40 (e 1) 1)) w fun t17 w =>
    N (xv (Instr.fieldAt 36 t17 0)) w fun t18 w =>
    N (xv (Instr.fieldAt 34 t18 2)) w fun t19 w =>
    N (xv (Instr.loadAt 2 t19)) w fun t20 w =>
    N (xcall (Value.func (Fn.func 17) #[] #[]) [t12, t16, t20]) w fun t21 w =>
    M t21 fun t11 =>
    N (xv (Instr.extract t11 0)) w fun t22 w =>
    N (xv (Instr.extract t11 1)) w fun t23 w =>
    N (xv (Instr.alloc 36 true (.tuple #[]))) w fun t4 w =>
    N (xu (Instr.storeAt 36 t4 t22)) w fun _ w =>
    M t23 fun t5 =>
    k (Env.p (Env.p e 4 t4) 5 t5) w) := nr (by kernel_rfl)
theorem o6_5_eq : opsW N M G 110 V6 o6_5 k o6_5.toList [] e e w =
    (M (e 3) fun t25 =>
    N (xv (Instr.fieldAt 40 (e 1) 1)) w fun t26 w =>
    N (xv (Instr.fieldAt 36 t26 0)) w fun t27 w =>
    N (xv (Instr.fieldAt 34 t27 0)) w fun t28 w =>
    N (xv (Instr.loadAt 9 t28)) w fun t29 w =>
    N (xv (Instr.fieldAt 40 (e 1) 2)) w fun t30 w =>
    N (xv (Instr.loadAt 2 t30)) w fun t31 w =>
    N (xv (Instr.fieldAt 40 (e 1) 3)) w fun t32 w =>
    N (xv (Instr.loadAt 38 t32)) w fun t33 w =>
    N (xcall (Value.func (Fn.func 16) #[] #[]) [t25, t29, t31, t33]) w fun t34 w =>
    M t34 fun t24 =>
    N (xv (Instr.extract t24 0)) w fun t35 w =>
    N (xv (Instr.extract t24 1)) w fun t36 w =>
    N (xv (Instr.alloc 36 true (.tuple #[]))) w fun t6 w =>
    N (xu (Instr.storeAt 36 t6 t35)) w fun _ w =>
    M t36 fun t7 =>
    k (Env.p (Env.p e 6 t6) 7 t7) w) := nr (by kernel_rfl)
theorem o6_8_eq : opsW N M G 110 V6 o6_8 k o6_8.toList [] e e w =
    (N (xv (Instr.build 56 ([]).toArray)) w fun t100 w =>
    N (xv (Instr.box 56 t100)) w fun t101 w =>
    M t101 fun t8 =>
    k (Env.p e 8 t8) w) := nr (by kernel_rfl)
theorem o6_9_eq : opsW N M G 110 V6 o6_9 k o6_9.toList [] e e w =
    (M (e 8) fun t102 =>
    N (xcall (Value.func (Fn.func 19) #[] #[]) [(Value.string ⟨#[97]⟩), (Value.int IntKind.i64 0), (Value.int IntKind.i64 1)]) w fun t103 w =>
    N (xcall (Value.func (Fn.func 15) #[] #[]) [t102, t103]) w fun t104 w =>
    M t104 fun t105 =>
    G (isB t105 true) (fun K => M (e 8) fun v => K v w) (fun t106 w =>
    G (isB t105 true) (fun K => N (xcall (Value.func (Fn.func 10) #[] #[]) [t106]) w K) (fun t107 w =>
    G (isB t105 true) (fun K => N (xv (xbin BinOp.eql 3 (Operand.tmp 107) (Operand.const (Value.int IntKind.i64 1)) t107 (Value.int IntKind.i64 1))) w K) (fun t108 w =>
    N (xpick t105 t108 (Value.bool false)) w fun t109 w =>
    M t109 fun t2 =>
    k (Env.p e 2 t2) w) w) w) w) := nr (by kernel_rfl)
theorem c6_7_s (hw : Cur w) : W3 Try.prog 110 V6 c6_7 Q e w = (opsW (nx Try.prog) mv gdP 110 V6 o6_9 (fun e w => Q .ret e w) o6_9.toList [] e e w) := by rw [(by kernel_rfl : c6_7 = .seq (.region 9 o6_9 false) Code.ret), W3_seq_reg]; simp only [W3_ret, W3_skip, W3_exit, W3_label]
theorem c6_6_s (hw : Cur w) : W3 Try.prog 110 V6 c6_6 Q e w = (opsW (nx Try.prog) mv gdP 110 V6 o6_8 (fun e w => W3 Try.prog 110 V6 c6_7 Q e w) o6_8.toList [] e e w) := by rw [(by kernel_rfl : c6_6 = .seq (.region 8 o6_8 false) c6_7), W3_seq_reg]
theorem o6_6_eq : opsW N M G 110 V6 o6_6 k o6_6.toList [] e e w =
    (M (e 3) fun t37 =>
    N (xv (Instr.fieldAt 40 (e 1) 1)) w fun t38 w =>
    N (xv (Instr.loadAt 36 t38)) w fun t39 w =>
    N (xcall (Value.func (Fn.func 15) #[] #[]) [t37, t39]) w fun t40 w =>
    M t40 fun t41 =>
    G (isB t41 false) (fun K => M (e 3) fun v => K v w) (fun t42 w =>
    G (isB t41 false) (fun K => N (xv (Instr.fieldAt 40 (e 1) 1)) w K) (fun t43 w =>
    G (isB t41 false) (fun K => N (xv (Instr.fieldAt 36 t43 0)) w K) (fun t44 w =>
    G (isB t41 false) (fun K => N (xv (Instr.fieldAt 34 t44 0)) w K) (fun t45 w =>
    G (isB t41 false) (fun K => N (xv (Instr.loadAt 9 t45)) w K) (fun t46 w =>
    G (isB t41 false) (fun K => N (xv (Instr.fieldAt 40 (e 1) 1)) w K) (fun t47 w =>
    G (isB t41 false) (fun K => N (xv (Instr.fieldAt 36 t47 0)) w K) (fun t48 w =>
    G (isB t41 false) (fun K => N (xv (Instr.fieldAt 34 t48 2)) w K) (fun t49 w =>
    G (isB t41 false) (fun K => N (xv (Instr.loadAt 2 t49)) w K) (fun t50 w =>
    G (isB t41 false) (fun K => N (xcall (Value.func (Fn.func 21) #[] #[]) [t42, t46, t50]) w K) (fun t51 w =>
    N (xpick t41 (Value.bool true) t51) w fun t52 w =>
    M t52 fun t53 =>
    G (isB t53 false) (fun K => N (xv (Instr.loadAt 36 (e 4))) w K) (fun t54 w =>
    G (isB t53 false) (fun K => N (xv (Instr.build 36 ([]).toArray)) w K) (fun t55 w =>
    G (isB t53 false) (fun K => N (xv (xbin BinOp.neq 36 (Operand.tmp 54) (Operand.tmp 55) t54 t55)) w K) (fun t56 w =>
    N (xpick t53 (Value.bool true) t56) w fun t57 w =>
    M t57 fun t58 =>
    G (isB t58 false) (fun K => M (e 5) fun v => K v w) (fun t59 w =>
    N (xpick t58 (Value.bool true) t59) w fun t60 w =>
    M t60 fun t61 =>
    G (isB t61 false) (fun K => N (xv (Instr.loadAt 36 (e 6))) w K) (fun t62 w =>
    G (isB t61 false) (fun K => N (xv (Instr.build 36 ([]).toArray)) w K) (fun t63 w =>
    G (isB t61 false) (fun K => N (xv (xbin BinOp.neq 36 (Operand.tmp 62) (Operand.tmp 63) t62 t63)) w K) (fun t64 w =>
    N (xpick t61 (Value.bool true) t64) w fun t65 w =>
    M t65 fun t66 =>
    G (isB t66 false) (fun K => M (e 7) fun v => K v w) (fun t67 w =>
    N (xpick t66 (Value.bool true) t67) w fun t68 w =>
    M t68 fun t69 =>
    G (isB t69 false) (fun K => M (e 3) fun v => K v w) (fun t70 w =>
    G (isB t69 false) (fun K => N (xcall (Value.func (Fn.func 14) #[] #[]) [t70]) w K) (fun t71 w =>
    G (isB t69 false) (fun K => N (builtin Builtin.len #[27] 3 ([false]).toArray ([t71]).toArray) w K) (fun t72 w =>
    G (isB t69 false) (fun K => N (xv (xbin BinOp.neq 3 (Operand.tmp 72) (Operand.const (Value.int IntKind.i64 0)) t72 (Value.int IntKind.i64 0))) w K) (fun t73 w =>
    N (xpick t69 (Value.bool true) t73) w fun t74 w =>
    M t74 fun t75 =>
    G (isB t75 false) (fun K => M (e 3) fun v => K v w) (fun t76 w =>
    G (isB t75 false) (fun K => N (xv (Instr.fieldAt 40 (e 1) 1)) w K) (fun t77 w =>
    G (isB t75 false) (fun K => N (xv (Instr.fieldAt 36 t77 0)) w K) (fun t78 w =>
    G (isB t75 false) (fun K => N (xv (Instr.fieldAt 34 t78 0)) w K) (fun t79 w =>
    G (isB t75 false) (fun K => N (xv (Instr.loadAt 9 t79)) w K) (fun t80 w =>
    G (isB t75 false) (fun K => N (xcall (Value.func (Fn.func 18) #[] #[]) [t76, t80]) w K) (fun t81 w =>
    G (isB t75 false) (fun K => N (builtin Builtin.len #[27] 3 ([false]).toArray ([t81]).toArray) w K) (fun t82 w =>
    G (isB t75 false) (fun K => N (xv (xbin BinOp.neq 3 (Operand.tmp 82) (Operand.const (Value.int IntKind.i64 0)) t82 (Value.int IntKind.i64 0))) w K) (fun t83 w =>
    N (xpick t75 (Value.bool true) t83) w fun t84 w =>
    M t84 fun t85 =>
    G (isB t85 false) (fun K => M (e 3) fun v => K v w) (fun t86 w =>
    G (isB t85 false) (fun K => N (xcall (Value.func (Fn.func 10) #[] #[]) [t86]) w K) (fun t87 w =>
    G (isB t85 false) (fun K => N (xv (xbin BinOp.neq 3 (Operand.tmp 87) (Operand.const (Value.int IntKind.i64 0)) t87 (Value.int IntKind.i64 0))) w K) (fun t88 w =>
    N (xpick t85 (Value.bool true) t88) w fun t89 w =>
    M t89 fun t90 =>
    G (isB t90 false) (fun K => M (e 3) fun v => K v w) (fun t91 w =>
    G (isB t90 false) (fun K => N (xcall (Value.func (Fn.func 11) #[] #[]) [t91]) w K) (fun t92 w =>
    G (isB t90 false) (fun K => N (xv (xbin BinOp.neq 3 (Operand.tmp 92) (Operand.const (Value.int IntKind.i64 0)) t92 (Value.int IntKind.i64 0))) w K) (fun t93 w =>
    N (xpick t90 (Value.bool true) t93) w fun t94 w =>
    M t94 fun t95 =>
    G (isB t95 false) (fun K => M (e 3) fun v => K v w) (fun t96 w =>
    G (isB t95 false) (fun K => N (xcall (Value.func (Fn.func 20) #[] #[]) [t96]) w K) (fun t97 w =>
    G (isB t95 false) (fun K => N (xv (xbin BinOp.neq 24 (Operand.tmp 97) (Operand.const (Value.pointer none)) t97 (Value.pointer none))) w K) (fun t98 w =>
    N (xpick t95 (Value.bool true) t98) w fun t99 w =>
    k (Env.p e 99 t99) w) w) w) w) w) w) w) w) w) w) w) w) w) w) w) w) w) w) w) w) w) w) w) w) w) w) w) w) w) w) w) w) w) w) w) w) w) w) w) w) := nr (by kernel_rfl)
theorem o6_7_eq : opsW N M G 110 V6 o6_7 k o6_7.toList [] e e w =
    (M (Value.bool false) fun t2 =>
    k (Env.p e 2 t2) w) := nr (by kernel_rfl)
theorem c6_10_s (hw : Cur w) : W3 Try.prog 110 V6 c6_10 Q e w = (opsW (nx Try.prog) mv gdP 110 V6 o6_7 (fun e w => Q .ret e w) o6_7.toList [] e e w) := by rw [(by kernel_rfl : c6_10 = .seq (.region 7 o6_7 false) Code.ret), W3_seq_reg]; simp only [W3_ret, W3_skip, W3_exit, W3_label]
theorem c6_9_v : opV V6 (.tmp 99) = true := by kernel_rfl
theorem c6_9_s (hw : Cur w) : W3 Try.prog 110 V6 c6_9 Q e w = (condP (ev e (.tmp 99)) (W3 Try.prog 110 V6 c6_10 Q e w) (Q .normal e w)) := by rw [(by kernel_rfl : c6_9 = .cond (.tmp 99) c6_10 Code.skip), W3_cond, c6_9_v, cond_true]; simp only [W3_ret, W3_skip, W3_exit, W3_label]
theorem c6_8_s (hw : Cur w) : W3 Try.prog 110 V6 c6_8 Q e w = (opsW (nx Try.prog) mv gdP 110 V6 o6_6 (fun e w => W3 Try.prog 110 V6 c6_9 Q e w) o6_6.toList [] e e w) := by rw [(by kernel_rfl : c6_8 = .seq (.region 6 o6_6 false) c6_9), W3_seq_reg]
theorem c6_5_s (hw : Cur w) : W3 Try.prog 110 V6 c6_5 Q e w = (W3 Try.prog 110 V6 c6_8 (seqQ (fun e w => W3 Try.prog 110 V6 c6_6 Q e w) Q) e w) := by rw [(by kernel_rfl : c6_5 = .seq c6_8 c6_6), W3_seq]
theorem c6_4_s (hw : Cur w) : W3 Try.prog 110 V6 c6_4 Q e w = (opsW (nx Try.prog) mv gdP 110 V6 o6_5 (fun e w => W3 Try.prog 110 V6 c6_5 Q e w) o6_5.toList [] e e w) := by rw [(by kernel_rfl : c6_4 = .seq (.region 5 o6_5 false) c6_5), W3_seq_reg]
theorem c6_3_s (hw : Cur w) : W3 Try.prog 110 V6 c6_3 Q e w = (opsW (nx Try.prog) mv gdP 110 V6 o6_4 (fun e w => W3 Try.prog 110 V6 c6_4 Q e w) o6_4.toList [] e e w) := by rw [(by kernel_rfl : c6_3 = .seq (.region 4 o6_4 false) c6_4), W3_seq_reg]
theorem c6_2_s (hw : Cur w) : W3 Try.prog 110 V6 c6_2 Q e w = (opsW (nx Try.prog) mv gdP 110 V6 o6_3 (fun e w => W3 Try.prog 110 V6 c6_3 Q e w) o6_3.toList [] e e w) := by rw [(by kernel_rfl : c6_2 = .seq (.region 3 o6_3 false) c6_3), W3_seq_reg]
theorem o6_1_eq : opsW N M G 110 V6 o6_1 k o6_1.toList [] e e w =
    (N (xcall (Value.func (Fn.func 7) #[] #[]) []) w fun t9 w =>
    N (xv (Op.unary UnOp.not t9)) w fun t10 w =>
    k (Env.p e 10 t10) w) := nr (by kernel_rfl)
theorem o6_2_eq : opsW N M G 110 V6 o6_2 k o6_2.toList [] e e w =
    (M (Value.bool false) fun t2 =>
    k (Env.p e 2 t2) w) := nr (by kernel_rfl)
theorem c6_13_s (hw : Cur w) : W3 Try.prog 110 V6 c6_13 Q e w = (opsW (nx Try.prog) mv gdP 110 V6 o6_2 (fun e w => Q .ret e w) o6_2.toList [] e e w) := by rw [(by kernel_rfl : c6_13 = .seq (.region 2 o6_2 false) Code.ret), W3_seq_reg]; simp only [W3_ret, W3_skip, W3_exit, W3_label]
theorem c6_12_v : opV V6 (.tmp 10) = true := by kernel_rfl
theorem c6_12_s (hw : Cur w) : W3 Try.prog 110 V6 c6_12 Q e w = (condP (ev e (.tmp 10)) (W3 Try.prog 110 V6 c6_13 Q e w) (Q .normal e w)) := by rw [(by kernel_rfl : c6_12 = .cond (.tmp 10) c6_13 Code.skip), W3_cond, c6_12_v, cond_true]; simp only [W3_ret, W3_skip, W3_exit, W3_label]
theorem c6_11_s (hw : Cur w) : W3 Try.prog 110 V6 c6_11 Q e w = (opsW (nx Try.prog) mv gdP 110 V6 o6_1 (fun e w => W3 Try.prog 110 V6 c6_12 Q e w) o6_1.toList [] e e w) := by rw [(by kernel_rfl : c6_11 = .seq (.region 1 o6_1 false) c6_12), W3_seq_reg]
theorem c6_1_s (hw : Cur w) : W3 Try.prog 110 V6 c6_1 Q e w = (W3 Try.prog 110 V6 c6_11 (seqQ (fun e w => W3 Try.prog 110 V6 c6_2 Q e w) Q) e w) := by rw [(by kernel_rfl : c6_1 = .seq c6_11 c6_2), W3_seq]
theorem c6_s (hw : Cur w) : W3 Try.prog 110 V6 c6 Q e w = (opsW (nx Try.prog) mv gdP 110 V6 o6_0 (fun e w => W3 Try.prog 110 V6 c6_1 Q e w) o6_0.toList [] e e w) := by rw [(by kernel_rfl : c6 = .seq (.region 0 o6_0 false) c6_1), W3_seq_reg]
theorem call6 {a0 : Value} {w : World} {R : Value → World → Prop} (h : W3 Try.prog 110 V6 c6 (retQ Try.prog [.tmp 2] R) (argE [a0]) w) : CallsN Try.prog 6 [a0] w R :=
  callsN_of_W3 (c := c6) (rs := [.tmp 2]) V6 Try.ntmps6 (by rw [Try.results6]) mixed Try.func6 (by kernel_rfl) (by kernel_rfl) (by kernel_rfl) (by kernel_rfl) (by simp) h
noncomputable def hk6 := And.intro (@o6_0_eq) <| And.intro (@o6_3_eq) <| And.intro (@o6_4_eq) <| And.intro (@o6_5_eq) <| And.intro (@o6_8_eq) <| And.intro (@o6_9_eq) <| And.intro (@c6_7_s) <| And.intro (@c6_6_s) <| And.intro (@o6_6_eq) <| And.intro (@o6_7_eq) <| And.intro (@c6_10_s) <| And.intro (@c6_9_s) <| And.intro (@c6_8_s) <| And.intro (@c6_5_s) <| And.intro (@c6_4_s) <| And.intro (@c6_3_s) <| And.intro (@c6_2_s) <| And.intro (@o6_1_eq) <| And.intro (@o6_2_eq) <| And.intro (@c6_13_s) <| And.intro (@c6_12_s) <| And.intro (@c6_11_s) <| And.intro (@c6_1_s) <| @c6_s
-- K6: ↓hk6
/-! ### vouch/vouchlaw10.TableFinds -/
def V4 : Nat → Bool := fun i => [0, 1, 2, 3, 4, 10, 11, 12, 13, 14, 15, 16, 17, 18, 19, 20, 21, 22, 24, 34, 57, 68, 93, 133, 135].elem i
noncomputable def c4 : Code := (Try.f4.body.getD .skip)
noncomputable def o4_0 : Array Oper := rO (cL c4)
noncomputable def c4_1 : Code := (cR c4)
noncomputable def c4_2 : Code := (cR c4_1)
noncomputable def o4_3 : Array Oper := rO (cL c4_2)
noncomputable def c4_3 : Code := (cR c4_2)
noncomputable def o4_4 : Array Oper := rO (cL c4_3)
noncomputable def c4_4 : Code := (cR c4_3)
noncomputable def c4_5 : Code := (cR c4_4)
noncomputable def o4_9 : Array Oper := rO (cL c4_5)
noncomputable def c4_6 : Code := (cR c4_5)
noncomputable def o4_10 : Array Oper := rO (cL c4_6)
noncomputable def c4_7 : Code := (cR c4_6)
noncomputable def o4_11 : Array Oper := rO (cL c4_7)
noncomputable def c4_8 : Code := (cR c4_7)
noncomputable def c4_9 : Code := (cR c4_8)
noncomputable def c4_10 : Code := (cR c4_9)
noncomputable def o4_25 : Array Oper := rO (cL c4_10)
noncomputable def c4_11 : Code := (cR c4_10)
noncomputable def o4_26 : Array Oper := rO (cL c4_11)
noncomputable def c4_12 : Code := (cL c4_9)
noncomputable def o4_23 : Array Oper := rO (cL c4_12)
noncomputable def c4_13 : Code := (cR c4_12)
noncomputable def c4_14 : Code := (cL c4_13)
noncomputable def o4_24 : Array Oper := rO (cL c4_14)
noncomputable def c4_15 : Code := (cL c4_8)
noncomputable def o4_12 : Array Oper := rO (cL c4_15)
noncomputable def c4_16 : Code := (cR c4_15)
noncomputable def c4_17 : Code := (cL c4_16)
noncomputable def c4_18 : Code := (cL c4_17)
noncomputable def c4_19 : Code := (cR c4_18)
noncomputable def c4_20 : Code := (cR c4_19)
noncomputable def o4_14 : Array Oper := rO c4_20
noncomputable def c4_21 : Code := (cL c4_19)
noncomputable def c4_22 : Code := (cL c4_21)
noncomputable def o4_15 : Array Oper := rO (cL c4_22)
noncomputable def c4_23 : Code := (cR c4_22)
noncomputable def o4_16 : Array Oper := rO (cL c4_23)
noncomputable def c4_24 : Code := (cR c4_23)
noncomputable def c4_25 : Code := (cR c4_24)
noncomputable def c4_26 : Code := (cR c4_25)
noncomputable def o4_21 : Array Oper := rO (cL c4_26)
noncomputable def c4_27 : Code := (cR c4_26)
noncomputable def c4_28 : Code := (cL c4_27)
noncomputable def o4_22 : Array Oper := rO (cL c4_28)
noncomputable def c4_29 : Code := (cL c4_25)
noncomputable def o4_19 : Array Oper := rO (cL c4_29)
noncomputable def c4_30 : Code := (cR c4_29)
noncomputable def c4_31 : Code := (cL c4_30)
noncomputable def o4_20 : Array Oper := rO c4_31
noncomputable def c4_32 : Code := (cL c4_24)
noncomputable def o4_17 : Array Oper := rO (cL c4_32)
noncomputable def c4_33 : Code := (cR c4_32)
noncomputable def c4_34 : Code := (cL c4_33)
noncomputable def o4_18 : Array Oper := rO c4_34
noncomputable def c4_35 : Code := (cL c4_18)
noncomputable def o4_13 : Array Oper := rO (cL c4_35)
noncomputable def c4_36 : Code := (cR c4_35)
noncomputable def c4_37 : Code := (cL c4_4)
noncomputable def o4_5 : Array Oper := rO (cL c4_37)
noncomputable def c4_38 : Code := (cR c4_37)
noncomputable def c4_39 : Code := (cL c4_38)
noncomputable def c4_40 : Code := (cL c4_39)
noncomputable def c4_41 : Code := (cR c4_40)
noncomputable def c4_42 : Code := (cR c4_41)
noncomputable def o4_7 : Array Oper := rO c4_42
noncomputable def c4_43 : Code := (cL c4_41)
noncomputable def c4_44 : Code := (cL c4_43)
noncomputable def o4_8 : Array Oper := rO c4_44
noncomputable def c4_45 : Code := (cL c4_40)
noncomputable def o4_6 : Array Oper := rO (cL c4_45)
noncomputable def c4_46 : Code := (cR c4_45)
noncomputable def c4_47 : Code := (cL c4_1)
noncomputable def o4_1 : Array Oper := rO (cL c4_47)
noncomputable def c4_48 : Code := (cR c4_47)
noncomputable def c4_49 : Code := (cL c4_48)
noncomputable def o4_2 : Array Oper := rO (cL c4_49)
theorem o4_0_eq : opsW N M G 173 V4 o4_0 k o4_0.toList [] e e w =
    (M (Value.bool false) fun t10 =>
    k (Env.p e 10 t10) w) := nr (by kernel_rfl)
theorem o4_3_eq : opsW N M G 173 V4 o4_3 k o4_3.toList [] e e w =
    (N (xcall (Value.func (Fn.func 8) #[] #[]) []) w fun t25 w =>
    M t25 fun t11 =>
    k (Env.p e 11 t11) w) := nr (by kernel_rfl)
theorem o4_4_eq : opsW N M G 173 V4 o4_4 k o4_4.toList [] e e w =
    (M (e 3) fun t26 =>
    N (xv (convert 5 2 t26)) w fun t27 w =>
    M (e 4) fun t28 =>
    N (xv (convert 5 2 t28)) w fun t29 w =>
    N (xv (Instr.build 38 ([(0, t27), (1, t29)]).toArray)) w fun t30 w =>
    N (xv (Instr.alloc 38 true (.tuple #[]))) w fun t12 w =>
    N (xu (Instr.storeAt 38 t12 t30)) w fun _ w =>
    k (Env.p e 12 t12) w) := nr (by kernel_rfl)
theorem o4_9_eq : opsW N M G 173 V4 o4_9 k o4_9.toList [] e e w =
    (M (e 11) fun t44 =>
    M (e 1) fun t45 =>
    M (e 2) fun t46 =>
    N (xv (convert 5 2 t46)) w fun t47 w =>
    N (xv (Instr.loadAt 38 (e 12))) w fun t48 w =>
    N (xcall (Value.func (Fn.func 16) #[] #[]) [t44, t45, t47, t48]) w fun t49 w =>
    M t49 fun t43 =>
    N (xv (Instr.extract t43 0)) w fun t50 w =>
    N (xv (Instr.extract t43 1)) w fun t51 w =>
    N (xv (Instr.alloc 36 true (.tuple #[]))) w fun t14 w =>
    N (xu (Instr.storeAt 36 t14 t50)) w fun _ w =>
    M t51 fun t15 =>
    k (Env.p (Env.p e 14 t14) 15 t15) w) := nr (by kernel_rfl)
theorem o4_10_eq : opsW N M G 173 V4 o4_10 k o4_10.toList [] e e w =
    (M (e 11) fun t52 =>
    N (xcall (Value.func (Fn.func 14) #[] #[]) [t52]) w fun t53 w =>
    M t53 fun t16 =>
    k (Env.p e 16 t16) w) := nr (by kernel_rfl)
theorem o4_11_eq : opsW N M G 173 V4 o4_11 k o4_11.toList [] e e w =
    (M (Value.int IntKind.i64 (-1)) fun t17 =>
    k (Env.p e 17 t17) w) := nr (by kernel_rfl)
theorem o4_25_eq : opsW N M G 173 V4 o4_25 k o4_25.toList [] e e w =
    (M (e 11) fun t144 =>
    M (e 1) fun t145 =>
    M (e 17) fun t146 =>
    N (xcall (Value.func (Fn.func 17) #[] #[]) [t144, t145, t146]) w fun t147 w =>
    M t147 fun t143 =>
    N (xv (Instr.extract t143 0)) w fun t148 w =>
    N (xv (Instr.extract t143 1)) w fun t149 w =>
    N (xv (Instr.alloc 36 true (.tuple #[]))) w fun t21 w =>
    N (xu (Instr.storeAt 36 t21 t148)) w fun _ w =>
    M t149 fun t22 =>
    k (Env.p (Env.p e 21 t21) 22 t22) w) := nr (by kernel_rfl)
theorem o4_26_eq : opsW N M G 173 V4 o4_26 k o4_26.toList [] e e w =
    (M (e 15) fun t150 =>
    M t150 fun t151 =>
    G (isB t151 true) (fun K => M (e 22) fun v => K v w) (fun t152 w =>
    N (xpick t151 t152 (Value.bool false)) w fun t153 w =>
    M t153 fun t154 =>
    G (isB t154 true) (fun K => N (xv (Instr.loadAt 36 (e 14))) w K) (fun t155 w =>
    G (isB t154 true) (fun K => N (xv (Instr.loadAt 36 (e 21))) w K) (fun t156 w =>
    G (isB t154 true) (fun K => N (xv (xbin BinOp.eql 36 (Operand.tmp 155) (Operand.tmp 156) t155 t156)) w K) (fun t157 w =>
    N (xpick t154 t157 (Value.bool false)) w fun t158 w =>
    M t158 fun t159 =>
    G (isB t159 true) (fun K => N (xv (Instr.fieldAt 36 (e 14) 0)) w K) (fun t160 w =>
    G (isB t159 true) (fun K => N (xv (Instr.fieldAt 34 t160 0)) w K) (fun t161 w =>
    G (isB t159 true) (fun K => N (xv (Instr.loadAt 9 t161)) w K) (fun t162 w =>
    G (isB t159 true) (fun K => M (e 1) fun v => K v w) (fun t163 w =>
    G (isB t159 true) (fun K => N (xv (xbin BinOp.eql 9 (Operand.tmp 162) (Operand.tmp 163) t162 t163)) w K) (fun t164 w =>
    N (xpick t159 t164 (Value.bool false)) w fun t165 w =>
    M t165 fun t166 =>
    G (isB t166 true) (fun K => N (xv (Instr.fieldAt 36 (e 14) 0)) w K) (fun t167 w =>
    G (isB t166 true) (fun K => N (xv (Instr.fieldAt 34 t167 2)) w K) (fun t168 w =>
    G (isB t166 true) (fun K => N (xv (Instr.loadAt 2 t168)) w K) (fun t169 w =>
    G (isB t166 true) (fun K => M (e 17) fun v => K v w) (fun t170 w =>
    G (isB t166 true) (fun K => N (xv (xbin BinOp.eql 2 (Operand.tmp 169) (Operand.tmp 170) t169 t170)) w K) (fun t171 w =>
    N (xpick t166 t171 (Value.bool false)) w fun t172 w =>
    M t172 fun t10 =>
    k (Env.p e 10 t10) w) w) w) w) w) w) w) w) w) w) w) w) w) w) w) := nr (by kernel_rfl)
theorem c4_11_s (hw : Cur w) : W3 Try.prog 173 V4 c4_11 Q e w = (opsW (nx Try.prog) mv gdP 173 V4 o4_26 (fun e w => Q .ret e w) o4_26.toList [] e e w) := by rw [(by kernel_rfl : c4_11 = .seq (.region 26 o4_26 false) Code.ret), W3_seq_reg]; simp only [W3_ret, W3_skip, W3_exit, W3_label]
theorem c4_10_s (hw : Cur w) : W3 Try.prog 173 V4 c4_10 Q e w = (opsW (nx Try.prog) mv gdP 173 V4 o4_25 (fun e w => W3 Try.prog 173 V4 c4_11 Q e w) o4_25.toList [] e e w) := by rw [(by kernel_rfl : c4_10 = .seq (.region 25 o4_25 false) c4_11), W3_seq_reg]
theorem o4_23_eq : opsW N M G 173 V4 o4_23 k o4_23.toList [] e e w =
    (M (e 17) fun t134 =>
    N (xv (xbin BinOp.lss 2 (Operand.tmp 134) (Operand.const (Value.int IntKind.i64 0)) t134 (Value.int IntKind.i64 0))) w fun t135 w =>
    k (Env.p e 135 t135) w) := nr (by kernel_rfl)
theorem o4_24_eq : opsW N M G 173 V4 o4_24 k o4_24.toList [] e e w =
    (M (e 15) fun t136 =>
    N (xv (Op.unary UnOp.not t136)) w fun t137 w =>
    M t137 fun t138 =>
    G (isB t138 true) (fun K => N (xv (Instr.loadAt 36 (e 14))) w K) (fun t139 w =>
    G (isB t138 true) (fun K => N (xv (Instr.build 36 ([]).toArray)) w K) (fun t140 w =>
    G (isB t138 true) (fun K => N (xv (xbin BinOp.eql 36 (Operand.tmp 139) (Operand.tmp 140) t139 t140)) w K) (fun t141 w =>
    N (xpick t138 t141 (Value.bool false)) w fun t142 w =>
    M t142 fun t10 =>
    k (Env.p e 10 t10) w) w) w) w) := nr (by kernel_rfl)
theorem c4_14_s (hw : Cur w) : W3 Try.prog 173 V4 c4_14 Q e w = (opsW (nx Try.prog) mv gdP 173 V4 o4_24 (fun e w => Q .ret e w) o4_24.toList [] e e w) := by rw [(by kernel_rfl : c4_14 = .seq (.region 24 o4_24 false) Code.ret), W3_seq_reg]; simp only [W3_ret, W3_skip, W3_exit, W3_label]
theorem c4_13_v : opV V4 (.tmp 135) = true := by kernel_rfl
theorem c4_13_s (hw : Cur w) : W3 Try.prog 173 V4 c4_13 Q e w = (condP (ev e (.tmp 135)) (W3 Try.prog 173 V4 c4_14 Q e w) (Q .normal e w)) := by rw [(by kernel_rfl : c4_13 = .cond (.tmp 135) c4_14 Code.skip), W3_cond, c4_13_v, cond_true]; simp only [W3_ret, W3_skip, W3_exit, W3_label]
theorem c4_12_s (hw : Cur w) : W3 Try.prog 173 V4 c4_12 Q e w = (opsW (nx Try.prog) mv gdP 173 V4 o4_23 (fun e w => W3 Try.prog 173 V4 c4_13 Q e w) o4_23.toList [] e e w) := by rw [(by kernel_rfl : c4_12 = .seq (.region 23 o4_23 false) c4_13), W3_seq_reg]
theorem c4_9_s (hw : Cur w) : W3 Try.prog 173 V4 c4_9 Q e w = (W3 Try.prog 173 V4 c4_12 (seqQ (fun e w => W3 Try.prog 173 V4 c4_10 Q e w) Q) e w) := by rw [(by kernel_rfl : c4_9 = .seq c4_12 c4_10), W3_seq]
theorem o4_12_eq : opsW N M G 173 V4 o4_12 k o4_12.toList [] e e w =
    (M (Value.int IntKind.i64 0) fun t18 =>
    k (Env.p e 18 t18) w) := nr (by kernel_rfl)
theorem o4_14_eq : opsW N M G 173 V4 o4_14 k o4_14.toList [] e e w =
    (M (e 18) fun t58 =>
    N (xv (xbin BinOp.add 3 (Operand.tmp 58) (Operand.const (Value.int IntKind.i64 1)) t58 (Value.int IntKind.i64 1))) w fun t59 w =>
    M t59 fun t18 =>
    k (Env.p e 18 t18) w) := nr (by kernel_rfl)
theorem c4_20_s (hw : Cur w) : W3 Try.prog 173 V4 c4_20 Q e w = (opsW (nx Try.prog) mv gdP 173 V4 o4_14 (fun e w => Q .normal e w) o4_14.toList [] e e w) := by rw [(by kernel_rfl : c4_20 = (.region 14 o4_14 false)), W3_reg]
theorem o4_15_eq : opsW N M G 173 V4 o4_15 k o4_15.toList [] e e w =
    (M (e 16) fun t60 =>
    M (e 18) fun t61 =>
    N (xv (Instr.indexAt 27 t60 t61)) w fun t62 w =>
    N (xv (Instr.fieldAt 36 t62 0)) w fun t63 w =>
    N (xv (Instr.loadAt 34 t63)) w fun t64 w =>
    N (xv (Instr.alloc 34 true (.tuple #[]))) w fun t19 w =>
    N (xu (Instr.storeAt 34 t19 t64)) w fun _ w =>
    k (Env.p e 19 t19) w) := nr (by kernel_rfl)
theorem o4_16_eq : opsW N M G 173 V4 o4_16 k o4_16.toList [] e e w =
    (N (xv (Instr.fieldAt 34 (e 19) 3)) w fun t65 w =>
    N (xv (Instr.loadAt 2 t65)) w fun t66 w =>
    M t66 fun t20 =>
    k (Env.p e 20 t20) w) := nr (by kernel_rfl)
theorem o4_21_eq : drawGo3 N T3 M G H 173 V4 o4_21 (puK o4_21) k o4_21.size [] (Array.replicate o4_21.size false) [] e e w =
    (M (e 18) fun t96 =>
    T3 (FrX none w) (xv (xbin BinOp.gtr 3 (Operand.tmp 96) (Operand.const (Value.int IntKind.i64 0)) t96 (Value.int IntKind.i64 0))) fun t97 =>
    M t97 fun t98 =>
    H (isB t98 true) (fun K => M (e 16) K) (fun t99 =>
    H (isB t98 true) (fun K => M (e 18) K) (fun t100 =>
    H (isB t98 true) (fun K => T3 (FrX none w) (xv (xbin BinOp.sub 3 (Operand.tmp 100) (Operand.const (Value.int IntKind.i64 1)) t100 (Value.int IntKind.i64 1))) K) (fun t101 =>
    H (isB t98 true) (fun K => T3 (FrX none w) (xv (Instr.indexAt 27 t99 t101)) K) (fun t102 =>
    H (isB t98 true) (fun K => T3 (FrX none w) (xv (Instr.fieldAt 36 t102 0)) K) (fun t103 =>
    H (isB t98 true) (fun K => T3 (FrX none w) (xv (Instr.fieldAt 34 t103 0)) K) (fun t104 =>
    H (isB t98 true) (fun K => T3 (FrX (some []) w) (xv (Instr.loadAt 9 t104)) K) (fun t105 =>
    H (isB t98 true) (fun K => T3 (FrX none w) (xv (Instr.fieldAt 34 (e 19) 0)) K) (fun t106 =>
    H (isB t98 true) (fun K => T3 (FrX (some []) w) (xv (Instr.loadAt 9 t106)) K) (fun t107 =>
    H (isB t98 true) (fun K => T3 (FrX none w) (xv (xbin BinOp.gtr 9 (Operand.tmp 105) (Operand.tmp 107) t105 t107)) K) (fun t108 =>
    H (isB t98 true) (fun K => M t108 K) (fun t109 =>
    H (isB t109 false) (fun K => M (e 16) K) (fun t110 =>
    H (isB t109 false) (fun K => M (e 18) K) (fun t111 =>
    H (isB t109 false) (fun K => T3 (FrX none w) (xv (xbin BinOp.sub 3 (Operand.tmp 111) (Operand.const (Value.int IntKind.i64 1)) t111 (Value.int IntKind.i64 1))) K) (fun t112 =>
    H (isB t109 false) (fun K => T3 (FrX none w) (xv (Instr.indexAt 27 t110 t112)) K) (fun t113 =>
    H (isB t109 false) (fun K => T3 (FrX none w) (xv (Instr.fieldAt 36 t113 0)) K) (fun t114 =>
    H (isB t109 false) (fun K => T3 (FrX none w) (xv (Instr.fieldAt 34 t114 0)) K) (fun t115 =>
    H (isB t109 false) (fun K => T3 (FrX (some []) w) (xv (Instr.loadAt 9 t115)) K) (fun t116 =>
    H (isB t109 false) (fun K => T3 (FrX none w) (xv (Instr.fieldAt 34 (e 19) 0)) K) (fun t117 =>
    H (isB t109 false) (fun K => T3 (FrX (some []) w) (xv (Instr.loadAt 9 t117)) K) (fun t118 =>
    H (isB t109 false) (fun K => T3 (FrX none w) (xv (xbin BinOp.eql 9 (Operand.tmp 116) (Operand.tmp 118) t116 t118)) K) (fun t119 =>
    H (isB t109 false) (fun K => M t119 K) (fun t120 =>
    H (isB t120 true) (fun K => M (e 16) K) (fun t121 =>
    H (isB t120 true) (fun K => M (e 18) K) (fun t122 =>
    H (isB t120 true) (fun K => T3 (FrX none w) (xv (xbin BinOp.sub 3 (Operand.tmp 122) (Operand.const (Value.int IntKind.i64 1)) t122 (Value.int IntKind.i64 1))) K) (fun t123 =>
    H (isB t120 true) (fun K => T3 (FrX none w) (xv (Instr.indexAt 27 t121 t123)) K) (fun t124 =>
    H (isB t120 true) (fun K => T3 (FrX none w) (xv (Instr.fieldAt 36 t124 0)) K) (fun t125 =>
    H (isB t120 true) (fun K => T3 (FrX none w) (xv (Instr.fieldAt 34 t125 2)) K) (fun t126 =>
    H (isB t120 true) (fun K => T3 (FrX (some []) w) (xv (Instr.loadAt 2 t126)) K) (fun t127 =>
    H (isB t120 true) (fun K => T3 (FrX none w) (xv (Instr.fieldAt 34 (e 19) 2)) K) (fun t128 =>
    H (isB t120 true) (fun K => T3 (FrX (some []) w) (xv (Instr.loadAt 2 t128)) K) (fun t129 =>
    H (isB t120 true) (fun K => T3 (FrX none w) (xv (xbin BinOp.geq 2 (Operand.tmp 127) (Operand.tmp 129) t127 t129)) K) (fun t130 =>
    H (isB t109 false) (fun K => T3 (FrX none w) (xpick t120 t130 (Value.bool false)) K) (fun t131 =>
    H (isB t98 true) (fun K => T3 (FrX none w) (xpick t109 (Value.bool true) t131) K) (fun t132 =>
    T3 (FrX none w) (xpick t98 t132 (Value.bool false)) fun t133 =>
    (k (Env.p e 133 t133)) w))))))))))))))))))))))))))))))))))) := nr (by kernel_rfl)
theorem o4_22_eq : opsW N M G 173 V4 o4_22 k o4_22.toList [] e e w =
    (M (Value.bool false) fun t10 =>
    k (Env.p e 10 t10) w) := nr (by kernel_rfl)
theorem c4_28_s (hw : Cur w) : W3 Try.prog 173 V4 c4_28 Q e w = (opsW (nx Try.prog) mv gdP 173 V4 o4_22 (fun e w => Q .ret e w) o4_22.toList [] e e w) := by rw [(by kernel_rfl : c4_28 = .seq (.region 22 o4_22 false) Code.ret), W3_seq_reg]; simp only [W3_ret, W3_skip, W3_exit, W3_label]
theorem c4_27_v : opV V4 (.tmp 133) = true := by kernel_rfl
theorem c4_27_s (hw : Cur w) : W3 Try.prog 173 V4 c4_27 Q e w = (condP (ev e (.tmp 133)) (W3 Try.prog 173 V4 c4_28 Q e w) (Q .normal e w)) := by rw [(by kernel_rfl : c4_27 = .cond (.tmp 133) c4_28 Code.skip), W3_cond, c4_27_v, cond_true]; simp only [W3_ret, W3_skip, W3_exit, W3_label]
theorem c4_26_s (hw : Cur w) : W3 Try.prog 173 V4 c4_26 Q e w = (drawGo3 (nx Try.prog) (takeP Try.prog) mv gdP gdT 173 V4 o4_21 (puK o4_21) (fun e w => W3 Try.prog 173 V4 c4_27 Q e w) o4_21.size [] (Array.replicate o4_21.size false) [] e e w.drew) := by rw [(by kernel_rfl : c4_26 = .seq (.region 21 o4_21 true) c4_27), W3_seq_regD]
theorem o4_19_eq : opsW N M G 173 V4 o4_19 k o4_19.toList [] e e w =
    (N (xv (Instr.fieldAt 34 (e 19) 0)) w fun t72 w =>
    N (xv (Instr.loadAt 9 t72)) w fun t73 w =>
    M (e 1) fun t74 =>
    N (xv (xbin BinOp.eql 9 (Operand.tmp 73) (Operand.tmp 74) t73 t74)) w fun t75 w =>
    M t75 fun t76 =>
    G (isB t76 true) (fun K => N (xv (Instr.fieldAt 34 (e 19) 2)) w K) (fun t77 w =>
    G (isB t76 true) (fun K => N (xv (Instr.loadAt 2 t77)) w K) (fun t78 w =>
    G (isB t76 true) (fun K => N (xv (Instr.fieldAt 38 (e 12) 0)) w K) (fun t79 w =>
    G (isB t76 true) (fun K => N (xv (Instr.loadAt 2 t79)) w K) (fun t80 w =>
    G (isB t76 true) (fun K => N (builtin Builtin.max #[2, 2] 2 ([false, false]).toArray ([t78, t80]).toArray) w K) (fun t81 w =>
    G (isB t76 true) (fun K => M (e 20) fun v => K v w) (fun t82 w =>
    G (isB t76 true) (fun K => N (xv (Instr.fieldAt 38 (e 12) 1)) w K) (fun t83 w =>
    G (isB t76 true) (fun K => N (xv (Instr.loadAt 2 t83)) w K) (fun t84 w =>
    G (isB t76 true) (fun K => N (builtin Builtin.min #[2, 2] 2 ([false, false]).toArray ([t82, t84]).toArray) w K) (fun t85 w =>
    G (isB t76 true) (fun K => N (xv (xbin BinOp.lss 2 (Operand.tmp 81) (Operand.tmp 85) t81 t85)) w K) (fun t86 w =>
    N (xpick t76 t86 (Value.bool false)) w fun t87 w =>
    M t87 fun t88 =>
    G (isB t88 true) (fun K => N (xv (Instr.fieldAt 34 (e 19) 2)) w K) (fun t89 w =>
    G (isB t88 true) (fun K => N (xv (Instr.loadAt 2 t89)) w K) (fun t90 w =>
    G (isB t88 true) (fun K => M (e 17) fun v => K v w) (fun t91 w =>
    G (isB t88 true) (fun K => N (xv (xbin BinOp.gtr 2 (Operand.tmp 90) (Operand.tmp 91) t90 t91)) w K) (fun t92 w =>
    N (xpick t88 t92 (Value.bool false)) w fun t93 w =>
    k (Env.p e 93 t93) w) w) w) w) w) w) w) w) w) w) w) w) w) w) w) := nr (by kernel_rfl)
theorem o4_20_eq : opsW N M G 173 V4 o4_20 k o4_20.toList [] e e w =
    (N (xv (Instr.fieldAt 34 (e 19) 2)) w fun t94 w =>
    N (xv (Instr.loadAt 2 t94)) w fun t95 w =>
    M t95 fun t17 =>
    k (Env.p e 17 t17) w) := nr (by kernel_rfl)
theorem c4_31_s (hw : Cur w) : W3 Try.prog 173 V4 c4_31 Q e w = (opsW (nx Try.prog) mv gdP 173 V4 o4_20 (fun e w => Q .normal e w) o4_20.toList [] e e w) := by rw [(by kernel_rfl : c4_31 = (.region 20 o4_20 false)), W3_reg]
theorem c4_30_v : opV V4 (.tmp 93) = true := by kernel_rfl
theorem c4_30_s (hw : Cur w) : W3 Try.prog 173 V4 c4_30 Q e w = (condP (ev e (.tmp 93)) (W3 Try.prog 173 V4 c4_31 Q e w) (Q .normal e w)) := by rw [(by kernel_rfl : c4_30 = .cond (.tmp 93) c4_31 Code.skip), W3_cond, c4_30_v, cond_true]; simp only [W3_ret, W3_skip, W3_exit, W3_label]
theorem c4_29_s (hw : Cur w) : W3 Try.prog 173 V4 c4_29 Q e w = (opsW (nx Try.prog) mv gdP 173 V4 o4_19 (fun e w => W3 Try.prog 173 V4 c4_30 Q e w) o4_19.toList [] e e w) := by rw [(by kernel_rfl : c4_29 = .seq (.region 19 o4_19 false) c4_30), W3_seq_reg]
theorem c4_25_s (hw : Cur w) : W3 Try.prog 173 V4 c4_25 Q e w = (W3 Try.prog 173 V4 c4_29 (seqQ (fun e w => W3 Try.prog 173 V4 c4_26 Q e w) Q) e w) := by rw [(by kernel_rfl : c4_25 = .seq c4_29 c4_26), W3_seq]
theorem o4_17_eq : opsW N M G 173 V4 o4_17 k o4_17.toList [] e e w =
    (M (e 20) fun t67 =>
    N (xv (xbin BinOp.eql 2 (Operand.tmp 67) (Operand.const (Value.int IntKind.i64 4611686018427387904)) t67 (Value.int IntKind.i64 4611686018427387904))) w fun t68 w =>
    k (Env.p e 68 t68) w) := nr (by kernel_rfl)
theorem o4_18_eq : opsW N M G 173 V4 o4_18 k o4_18.toList [] e e w =
    (M (e 2) fun t69 =>
    N (xv (convert 5 2 t69)) w fun t70 w =>
    N (xv (xbin BinOp.add 2 (Operand.tmp 70) (Operand.const (Value.int IntKind.i64 1)) t70 (Value.int IntKind.i64 1))) w fun t71 w =>
    M t71 fun t20 =>
    k (Env.p e 20 t20) w) := nr (by kernel_rfl)
theorem c4_34_s (hw : Cur w) : W3 Try.prog 173 V4 c4_34 Q e w = (opsW (nx Try.prog) mv gdP 173 V4 o4_18 (fun e w => Q .normal e w) o4_18.toList [] e e w) := by rw [(by kernel_rfl : c4_34 = (.region 18 o4_18 false)), W3_reg]
theorem c4_33_v : opV V4 (.tmp 68) = true := by kernel_rfl
theorem c4_33_s (hw : Cur w) : W3 Try.prog 173 V4 c4_33 Q e w = (condP (ev e (.tmp 68)) (W3 Try.prog 173 V4 c4_34 Q e w) (Q .normal e w)) := by rw [(by kernel_rfl : c4_33 = .cond (.tmp 68) c4_34 Code.skip), W3_cond, c4_33_v, cond_true]; simp only [W3_ret, W3_skip, W3_exit, W3_label]
theorem c4_32_s (hw : Cur w) : W3 Try.prog 173 V4 c4_32 Q e w = (opsW (nx Try.prog) mv gdP 173 V4 o4_17 (fun e w => W3 Try.prog 173 V4 c4_33 Q e w) o4_17.toList [] e e w) := by rw [(by kernel_rfl : c4_32 = .seq (.region 17 o4_17 false) c4_33), W3_seq_reg]
theorem c4_24_s (hw : Cur w) : W3 Try.prog 173 V4 c4_24 Q e w = (W3 Try.prog 173 V4 c4_32 (seqQ (fun e w => W3 Try.prog 173 V4 c4_25 Q e w) Q) e w) := by rw [(by kernel_rfl : c4_24 = .seq c4_32 c4_25), W3_seq]
theorem c4_23_s (hw : Cur w) : W3 Try.prog 173 V4 c4_23 Q e w = (opsW (nx Try.prog) mv gdP 173 V4 o4_16 (fun e w => W3 Try.prog 173 V4 c4_24 Q e w) o4_16.toList [] e e w) := by rw [(by kernel_rfl : c4_23 = .seq (.region 16 o4_16 false) c4_24), W3_seq_reg]
theorem c4_22_s (hw : Cur w) : W3 Try.prog 173 V4 c4_22 Q e w = (opsW (nx Try.prog) mv gdP 173 V4 o4_15 (fun e w => W3 Try.prog 173 V4 c4_23 Q e w) o4_15.toList [] e e w) := by rw [(by kernel_rfl : c4_22 = .seq (.region 15 o4_15 false) c4_23), W3_seq_reg]
theorem c4_21_s (hw : Cur w) : W3 Try.prog 173 V4 c4_21 Q e w = (W3 Try.prog 173 V4 c4_22 (blockQ 3 Q) e w) := by rw [(by kernel_rfl : c4_21 = .block 3 c4_22), W3_block]
theorem c4_19_s (hw : Cur w) : W3 Try.prog 173 V4 c4_19 Q e w = (W3 Try.prog 173 V4 c4_21 (seqQ (fun e w => W3 Try.prog 173 V4 c4_20 Q e w) Q) e w) := by rw [(by kernel_rfl : c4_19 = .seq c4_21 c4_20), W3_seq]
theorem o4_13_eq : opsW N M G 173 V4 o4_13 k o4_13.toList [] e e w =
    (M (e 18) fun t54 =>
    M (e 16) fun t55 =>
    N (builtin Builtin.len #[27] 3 ([false]).toArray ([t55]).toArray) w fun t56 w =>
    N (xv (xbin BinOp.lss 3 (Operand.tmp 54) (Operand.tmp 56) t54 t56)) w fun t57 w =>
    k (Env.p e 57 t57) w) := nr (by kernel_rfl)
theorem c4_36_v : opV V4 (.tmp 57) = true := by kernel_rfl
theorem c4_36_s (hw : Cur w) : W3 Try.prog 173 V4 c4_36 Q e w = (condP (ev e (.tmp 57)) (Q .normal e w) (Q (.exit 2) e w)) := by rw [(by kernel_rfl : c4_36 = .cond (.tmp 57) Code.skip (Code.exit 2)), W3_cond, c4_36_v, cond_true]; simp only [W3_ret, W3_skip, W3_exit, W3_label]
theorem c4_35_s (hw : Cur w) : W3 Try.prog 173 V4 c4_35 Q e w = (opsW (nx Try.prog) mv gdP 173 V4 o4_13 (fun e w => W3 Try.prog 173 V4 c4_36 Q e w) o4_13.toList [] e e w) := by rw [(by kernel_rfl : c4_35 = .seq (.region 13 o4_13 false) c4_36), W3_seq_reg]
theorem c4_18_s (hw : Cur w) : W3 Try.prog 173 V4 c4_18 Q e w = (W3 Try.prog 173 V4 c4_35 (seqQ (fun e w => W3 Try.prog 173 V4 c4_19 Q e w) Q) e w) := by rw [(by kernel_rfl : c4_18 = .seq c4_35 c4_19), W3_seq]
theorem c4_17_s (hw : Cur w) : W3 Try.prog 173 V4 c4_17 Q e w = (LoopP (fun e w k => W3 Try.prog 173 V4 c4_18 (seqQ k Q) e w) e w) := by rw [(by kernel_rfl : c4_17 = .loop c4_18), W3_loop]
theorem c4_16_s (hw : Cur w) : W3 Try.prog 173 V4 c4_16 Q e w = (W3 Try.prog 173 V4 c4_17 (blockQ 2 Q) e w) := by rw [(by kernel_rfl : c4_16 = .block 2 c4_17), W3_block]
theorem c4_15_s (hw : Cur w) : W3 Try.prog 173 V4 c4_15 Q e w = (opsW (nx Try.prog) mv gdP 173 V4 o4_12 (fun e w => W3 Try.prog 173 V4 c4_16 Q e w) o4_12.toList [] e e w) := by rw [(by kernel_rfl : c4_15 = .seq (.region 12 o4_12 false) c4_16), W3_seq_reg]
theorem c4_8_s (hw : Cur w) : W3 Try.prog 173 V4 c4_8 Q e w = (W3 Try.prog 173 V4 c4_15 (seqQ (fun e w => W3 Try.prog 173 V4 c4_9 Q e w) Q) e w) := by rw [(by kernel_rfl : c4_8 = .seq c4_15 c4_9), W3_seq]
theorem c4_7_s (hw : Cur w) : W3 Try.prog 173 V4 c4_7 Q e w = (opsW (nx Try.prog) mv gdP 173 V4 o4_11 (fun e w => W3 Try.prog 173 V4 c4_8 Q e w) o4_11.toList [] e e w) := by rw [(by kernel_rfl : c4_7 = .seq (.region 11 o4_11 false) c4_8), W3_seq_reg]
theorem c4_6_s (hw : Cur w) : W3 Try.prog 173 V4 c4_6 Q e w = (opsW (nx Try.prog) mv gdP 173 V4 o4_10 (fun e w => W3 Try.prog 173 V4 c4_7 Q e w) o4_10.toList [] e e w) := by rw [(by kernel_rfl : c4_6 = .seq (.region 10 o4_10 false) c4_7), W3_seq_reg]
theorem c4_5_s (hw : Cur w) : W3 Try.prog 173 V4 c4_5 Q e w = (opsW (nx Try.prog) mv gdP 173 V4 o4_9 (fun e w => W3 Try.prog 173 V4 c4_6 Q e w) o4_9.toList [] e e w) := by rw [(by kernel_rfl : c4_5 = .seq (.region 9 o4_9 false) c4_6), W3_seq_reg]
theorem o4_5_eq : opsW N M G 173 V4 o4_5 k o4_5.toList [] e e w =
    (M (Value.int IntKind.i64 0) fun t13 =>
    k (Env.p e 13 t13) w) := nr (by kernel_rfl)
theorem o4_7_eq : opsW N M G 173 V4 o4_7 k o4_7.toList [] e e w =
    (M (e 13) fun t35 =>
    N (xv (xbin BinOp.add 3 (Operand.tmp 35) (Operand.const (Value.int IntKind.i64 1)) t35 (Value.int IntKind.i64 1))) w fun t36 w =>
    M t36 fun t13 =>
    k (Env.p e 13 t13) w) := nr (by kernel_rfl)
theorem c4_42_s (hw : Cur w) : W3 Try.prog 173 V4 c4_42 Q e w = (opsW (nx Try.prog) mv gdP 173 V4 o4_7 (fun e w => Q .normal e w) o4_7.toList [] e e w) := by rw [(by kernel_rfl : c4_42 = (.region 7 o4_7 false)), W3_reg]
theorem o4_8_eq : opsW N M G 173 V4 o4_8 k o4_8.toList [] e e w =
    (M (e 11) fun t37 =>
    M (e 0) fun t38 =>
    M (e 13) fun t39 =>
    N (xv (Instr.indexAt 27 t38 t39)) w fun t40 w =>
    N (xv (Instr.loadAt 36 t40)) w fun t41 w =>
    N (xcall (Value.func (Fn.func 15) #[] #[]) [t37, t41]) w fun t42 w =>
    k e w) := nr (by kernel_rfl)
theorem c4_44_s (hw : Cur w) : W3 Try.prog 173 V4 c4_44 Q e w = (opsW (nx Try.prog) mv gdP 173 V4 o4_8 (fun e w => Q .normal e w) o4_8.toList [] e e w) := by rw [(by kernel_rfl : c4_44 = (.region 8 o4_8 false)), W3_reg]
theorem c4_43_s (hw : Cur w) : W3 Try.prog 173 V4 c4_43 Q e w = (W3 Try.prog 173 V4 c4_44 (blockQ 1 Q) e w) := by rw [(by kernel_rfl : c4_43 = .block 1 c4_44), W3_block]
theorem c4_41_s (hw : Cur w) : W3 Try.prog 173 V4 c4_41 Q e w = (W3 Try.prog 173 V4 c4_43 (seqQ (fun e w => W3 Try.prog 173 V4 c4_42 Q e w) Q) e w) := by rw [(by kernel_rfl : c4_41 = .seq c4_43 c4_42), W3_seq]
theorem o4_6_eq : opsW N M G 173 V4 o4_6 k o4_6.toList [] e e w =
    (M (e 13) fun t31 =>
    M (e 0) fun t32 =>
    N (builtin Builtin.len #[27] 3 ([false]).toArray ([t32]).toArray) w fun t33 w =>
    N (xv (xbin BinOp.lss 3 (Operand.tmp 31) (Operand.tmp 33) t31 t33)) w fun t34 w =>
    k (Env.p e 34 t34) w) := nr (by kernel_rfl)
theorem c4_46_v : opV V4 (.tmp 34) = true := by kernel_rfl
theorem c4_46_s (hw : Cur w) : W3 Try.prog 173 V4 c4_46 Q e w = (condP (ev e (.tmp 34)) (Q .normal e w) (Q (.exit 0) e w)) := by rw [(by kernel_rfl : c4_46 = .cond (.tmp 34) Code.skip (Code.exit 0)), W3_cond, c4_46_v, cond_true]; simp only [W3_ret, W3_skip, W3_exit, W3_label]
theorem c4_45_s (hw : Cur w) : W3 Try.prog 173 V4 c4_45 Q e w = (opsW (nx Try.prog) mv gdP 173 V4 o4_6 (fun e w => W3 Try.prog 173 V4 c4_46 Q e w) o4_6.toList [] e e w) := by rw [(by kernel_rfl : c4_45 = .seq (.region 6 o4_6 false) c4_46), W3_seq_reg]
theorem c4_40_s (hw : Cur w) : W3 Try.prog 173 V4 c4_40 Q e w = (W3 Try.prog 173 V4 c4_45 (seqQ (fun e w => W3 Try.prog 173 V4 c4_41 Q e w) Q) e w) := by rw [(by kernel_rfl : c4_40 = .seq c4_45 c4_41), W3_seq]
theorem c4_39_s (hw : Cur w) : W3 Try.prog 173 V4 c4_39 Q e w = (LoopP (fun e w k => W3 Try.prog 173 V4 c4_40 (seqQ k Q) e w) e w) := by rw [(by kernel_rfl : c4_39 = .loop c4_40), W3_loop]
theorem c4_38_s (hw : Cur w) : W3 Try.prog 173 V4 c4_38 Q e w = (W3 Try.prog 173 V4 c4_39 (blockQ 0 Q) e w) := by rw [(by kernel_rfl : c4_38 = .block 0 c4_39), W3_block]
theorem c4_37_s (hw : Cur w) : W3 Try.prog 173 V4 c4_37 Q e w = (opsW (nx Try.prog) mv gdP 173 V4 o4_5 (fun e w => W3 Try.prog 173 V4 c4_38 Q e w) o4_5.toList [] e e w) := by rw [(by kernel_rfl : c4_37 = .seq (.region 5 o4_5 false) c4_38), W3_seq_reg]
theorem c4_4_s (hw : Cur w) : W3 Try.prog 173 V4 c4_4 Q e w = (W3 Try.prog 173 V4 c4_37 (seqQ (fun e w => W3 Try.prog 173 V4 c4_5 Q e w) Q) e w) := by rw [(by kernel_rfl : c4_4 = .seq c4_37 c4_5), W3_seq]
theorem c4_3_s (hw : Cur w) : W3 Try.prog 173 V4 c4_3 Q e w = (opsW (nx Try.prog) mv gdP 173 V4 o4_4 (fun e w => W3 Try.prog 173 V4 c4_4 Q e w) o4_4.toList [] e e w) := by rw [(by kernel_rfl : c4_3 = .seq (.region 4 o4_4 false) c4_4), W3_seq_reg]
theorem c4_2_s (hw : Cur w) : W3 Try.prog 173 V4 c4_2 Q e w = (opsW (nx Try.prog) mv gdP 173 V4 o4_3 (fun e w => W3 Try.prog 173 V4 c4_3 Q e w) o4_3.toList [] e e w) := by rw [(by kernel_rfl : c4_2 = .seq (.region 3 o4_3 false) c4_3), W3_seq_reg]
theorem o4_1_eq : opsW N M G 173 V4 o4_1 k o4_1.toList [] e e w =
    (N (xcall (Value.func (Fn.func 7) #[] #[]) []) w fun t23 w =>
    N (xv (Op.unary UnOp.not t23)) w fun t24 w =>
    k (Env.p e 24 t24) w) := nr (by kernel_rfl)
theorem o4_2_eq : opsW N M G 173 V4 o4_2 k o4_2.toList [] e e w =
    (M (Value.bool false) fun t10 =>
    k (Env.p e 10 t10) w) := nr (by kernel_rfl)
theorem c4_49_s (hw : Cur w) : W3 Try.prog 173 V4 c4_49 Q e w = (opsW (nx Try.prog) mv gdP 173 V4 o4_2 (fun e w => Q .ret e w) o4_2.toList [] e e w) := by rw [(by kernel_rfl : c4_49 = .seq (.region 2 o4_2 false) Code.ret), W3_seq_reg]; simp only [W3_ret, W3_skip, W3_exit, W3_label]
theorem c4_48_v : opV V4 (.tmp 24) = true := by kernel_rfl
theorem c4_48_s (hw : Cur w) : W3 Try.prog 173 V4 c4_48 Q e w = (condP (ev e (.tmp 24)) (W3 Try.prog 173 V4 c4_49 Q e w) (Q .normal e w)) := by rw [(by kernel_rfl : c4_48 = .cond (.tmp 24) c4_49 Code.skip), W3_cond, c4_48_v, cond_true]; simp only [W3_ret, W3_skip, W3_exit, W3_label]
theorem c4_47_s (hw : Cur w) : W3 Try.prog 173 V4 c4_47 Q e w = (opsW (nx Try.prog) mv gdP 173 V4 o4_1 (fun e w => W3 Try.prog 173 V4 c4_48 Q e w) o4_1.toList [] e e w) := by rw [(by kernel_rfl : c4_47 = .seq (.region 1 o4_1 false) c4_48), W3_seq_reg]
theorem c4_1_s (hw : Cur w) : W3 Try.prog 173 V4 c4_1 Q e w = (W3 Try.prog 173 V4 c4_47 (seqQ (fun e w => W3 Try.prog 173 V4 c4_2 Q e w) Q) e w) := by rw [(by kernel_rfl : c4_1 = .seq c4_47 c4_2), W3_seq]
theorem c4_s (hw : Cur w) : W3 Try.prog 173 V4 c4 Q e w = (opsW (nx Try.prog) mv gdP 173 V4 o4_0 (fun e w => W3 Try.prog 173 V4 c4_1 Q e w) o4_0.toList [] e e w) := by rw [(by kernel_rfl : c4 = .seq (.region 0 o4_0 false) c4_1), W3_seq_reg]
theorem call4 {a0 a1 a2 a3 a4 : Value} {w : World} {R : Value → World → Prop} (h : W3 Try.prog 173 V4 c4 (retQ Try.prog [.tmp 10] R) (argE [a0, a1, a2, a3, a4]) w) : CallsN Try.prog 4 [a0, a1, a2, a3, a4] w R :=
  callsN_of_W3 (c := c4) (rs := [.tmp 10]) V4 Try.ntmps4 (by rw [Try.results4]) mixed Try.func4 (by kernel_rfl) (by kernel_rfl) (by kernel_rfl) (by kernel_rfl) (by simp) h
noncomputable def hk4 := And.intro (@o4_0_eq) <| And.intro (@o4_3_eq) <| And.intro (@o4_4_eq) <| And.intro (@o4_9_eq) <| And.intro (@o4_10_eq) <| And.intro (@o4_11_eq) <| And.intro (@o4_25_eq) <| And.intro (@o4_26_eq) <| And.intro (@c4_11_s) <| And.intro (@c4_10_s) <| And.intro (@o4_23_eq) <| And.intro (@o4_24_eq) <| And.intro (@c4_14_s) <| And.intro (@c4_13_s) <| And.intro (@c4_12_s) <| And.intro (@c4_9_s) <| And.intro (@o4_12_eq) <| And.intro (@o4_14_eq) <| And.intro (@c4_20_s) <| And.intro (@o4_15_eq) <| And.intro (@o4_16_eq) <| And.intro (@o4_21_eq) <| And.intro (@o4_22_eq) <| And.intro (@c4_28_s) <| And.intro (@c4_27_s) <| And.intro (@c4_26_s) <| And.intro (@o4_19_eq) <| And.intro (@o4_20_eq) <| And.intro (@c4_31_s) <| And.intro (@c4_30_s) <| And.intro (@c4_29_s) <| And.intro (@c4_25_s) <| And.intro (@o4_17_eq) <| And.intro (@o4_18_eq) <| And.intro (@c4_34_s) <| And.intro (@c4_33_s) <| And.intro (@c4_32_s) <| And.intro (@c4_24_s) <| And.intro (@c4_23_s) <| And.intro (@c4_22_s) <| And.intro (@c4_21_s) <| And.intro (@c4_19_s) <| And.intro (@o4_13_eq) <| And.intro (@c4_36_s) <| And.intro (@c4_35_s) <| And.intro (@c4_18_s) <| And.intro (@c4_17_s) <| And.intro (@c4_16_s) <| And.intro (@c4_15_s) <| And.intro (@c4_8_s) <| And.intro (@c4_7_s) <| And.intro (@c4_6_s) <| And.intro (@c4_5_s) <| And.intro (@o4_5_eq) <| And.intro (@o4_7_eq) <| And.intro (@c4_42_s) <| And.intro (@o4_8_eq) <| And.intro (@c4_44_s) <| And.intro (@c4_43_s) <| And.intro (@c4_41_s) <| And.intro (@o4_6_eq) <| And.intro (@c4_46_s) <| And.intro (@c4_45_s) <| And.intro (@c4_40_s) <| And.intro (@c4_39_s) <| And.intro (@c4_38_s) <| And.intro (@c4_37_s) <| And.intro (@c4_4_s) <| And.intro (@c4_3_s) <| And.intro (@c4_2_s) <| And.intro (@o4_1_eq) <| And.intro (@o4_2_eq) <| And.intro (@c4_49_s) <| And.intro (@c4_48_s) <| And.intro (@c4_47_s) <| And.intro (@c4_1_s) <| @c4_s
-- K4: ↓hk4
end
end Go.Proofs.Ytldmkhakjnglmaa
