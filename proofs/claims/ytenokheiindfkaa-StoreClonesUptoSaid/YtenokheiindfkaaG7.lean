/- The equations of the code of some functions, written by the printer gen.py: each is checked by the kernel. -/
import Derived.Test.YtenokheiindfkaaQ0
import Derived.Test.YtenokheiindfkaaCE
set_option linter.unusedVariables false
set_option linter.unusedSimpArgs false
set_option maxRecDepth 100000
namespace Go.Proofs.Ytenokheiindfkaa
open Go.VW
noncomputable section
set_option linter.defProp false
variable {N : Sem Next → World → (Value → World → Prop) → Prop} {T : Sem Next → (Value → Prop) → Prop} {M : Value → (Value → Prop) → Prop} {G : Bool → ((Value → World → Prop) → Prop) → (Value → World → Prop) → World → Prop}
  {H : Bool → ((Value → Prop) → Prop) → (Value → Prop) → Prop} {S : World → Prop} {k : Env → World → Prop} {Q : Exit → Env → World → Prop} {e : Env} {w : World}
  {T2 : Nat → Sem Next → (Value → Prop) → Prop} {S2 : Nat → World → Prop} {T3 : (World → Prop) → Sem Next → (Value → Prop) → Prop}
/-! ### vouch/vouchref05.New -/
def V46 : Nat → Bool := fun i => [0, 2, 4, 6].elem i
noncomputable def c46 : Code := (Try.f46.body.getD .skip)
noncomputable def o46_0 : Array Oper := rO (cL c46)
noncomputable def c46_1 : Code := (cR c46)
noncomputable def c46_2 : Code := (cR c46_1)
noncomputable def c46_3 : Code := (cR c46_2)
noncomputable def o46_5 : Array Oper := rO (cL c46_3)
noncomputable def c46_4 : Code := (cL c46_2)
noncomputable def o46_3 : Array Oper := rO (cL c46_4)
noncomputable def c46_5 : Code := (cR c46_4)
noncomputable def c46_6 : Code := (cL c46_5)
noncomputable def o46_4 : Array Oper := rO c46_6
noncomputable def c46_7 : Code := (cL c46_1)
noncomputable def o46_1 : Array Oper := rO (cL c46_7)
noncomputable def c46_8 : Code := (cR c46_7)
noncomputable def c46_9 : Code := (cL c46_8)
noncomputable def o46_2 : Array Oper := rO c46_9
theorem o46_0_eq : opsW N M G 10 V46 o46_0 k o46_0.toList [] e e w =
    (M (Value.pointer none) fun t2 =>
    k (Env.p e 2 t2) w) := nr (by kernel_rfl)
theorem o46_5_eq : opsW N M G 10 V46 o46_5 k o46_5.toList [] e e w =
    (M (e 0) fun t7 =>
    N (xv (Instr.build 104 ([(1, t7)]).toArray)) w fun t8 w =>
    N (xv (Instr.box 104 t8)) w fun t9 w =>
    M t9 fun t2 =>
    k (Env.p e 2 t2) w) := nr (by kernel_rfl)
theorem c46_3_s (hw : Cur w) : W3 Try.prog 10 V46 c46_3 Q e w = (opsW (nx Try.prog) mv gdP 10 V46 o46_5 (fun e w => Q .ret e w) o46_5.toList [] e e w) := by rw [(by kernel_rfl : c46_3 = .seq (.region 5 o46_5 false) Code.ret), W3_seq_reg]; simp only [W3_ret, W3_skip, W3_exit, W3_label]
theorem o46_3_eq : opsW N M G 10 V46 o46_3 k o46_3.toList [] e e w =
    (M (e 0) fun t5 =>
    N (xv (xbin BinOp.gtr 3 (Operand.tmp 5) (Operand.const (Value.int IntKind.i64 64)) t5 (Value.int IntKind.i64 64))) w fun t6 w =>
    k (Env.p e 6 t6) w) := nr (by kernel_rfl)
theorem o46_4_eq : opsW N M G 10 V46 o46_4 k o46_4.toList [] e e w =
    (M (Value.int IntKind.i64 64) fun t0 =>
    k (Env.p e 0 t0) w) := nr (by kernel_rfl)
theorem c46_6_s (hw : Cur w) : W3 Try.prog 10 V46 c46_6 Q e w = (opsW (nx Try.prog) mv gdP 10 V46 o46_4 (fun e w => Q .normal e w) o46_4.toList [] e e w) := by rw [(by kernel_rfl : c46_6 = (.region 4 o46_4 false)), W3_reg]
theorem c46_5_v : opV V46 (.tmp 6) = true := by kernel_rfl
theorem c46_5_s (hw : Cur w) : W3 Try.prog 10 V46 c46_5 Q e w = (condP (ev e (.tmp 6)) (W3 Try.prog 10 V46 c46_6 Q e w) (Q .normal e w)) := by rw [(by kernel_rfl : c46_5 = .cond (.tmp 6) c46_6 Code.skip), W3_cond, c46_5_v, cond_true]; simp only [W3_ret, W3_skip, W3_exit, W3_label]
theorem c46_4_s (hw : Cur w) : W3 Try.prog 10 V46 c46_4 Q e w = (opsW (nx Try.prog) mv gdP 10 V46 o46_3 (fun e w => W3 Try.prog 10 V46 c46_5 Q e w) o46_3.toList [] e e w) := by rw [(by kernel_rfl : c46_4 = .seq (.region 3 o46_3 false) c46_5), W3_seq_reg]
theorem c46_2_s (hw : Cur w) : W3 Try.prog 10 V46 c46_2 Q e w = (W3 Try.prog 10 V46 c46_4 (seqQ (fun e w => W3 Try.prog 10 V46 c46_3 Q e w) Q) e w) := by rw [(by kernel_rfl : c46_2 = .seq c46_4 c46_3), W3_seq]
theorem o46_1_eq : opsW N M G 10 V46 o46_1 k o46_1.toList [] e e w =
    (M (e 0) fun t3 =>
    N (xv (xbin BinOp.lss 3 (Operand.tmp 3) (Operand.const (Value.int IntKind.i64 1)) t3 (Value.int IntKind.i64 1))) w fun t4 w =>
    k (Env.p e 4 t4) w) := nr (by kernel_rfl)
theorem o46_2_eq : opsW N M G 10 V46 o46_2 k o46_2.toList [] e e w =
    (M (Value.int IntKind.i64 1) fun t0 =>
    k (Env.p e 0 t0) w) := nr (by kernel_rfl)
theorem c46_9_s (hw : Cur w) : W3 Try.prog 10 V46 c46_9 Q e w = (opsW (nx Try.prog) mv gdP 10 V46 o46_2 (fun e w => Q .normal e w) o46_2.toList [] e e w) := by rw [(by kernel_rfl : c46_9 = (.region 2 o46_2 false)), W3_reg]
theorem c46_8_v : opV V46 (.tmp 4) = true := by kernel_rfl
theorem c46_8_s (hw : Cur w) : W3 Try.prog 10 V46 c46_8 Q e w = (condP (ev e (.tmp 4)) (W3 Try.prog 10 V46 c46_9 Q e w) (Q .normal e w)) := by rw [(by kernel_rfl : c46_8 = .cond (.tmp 4) c46_9 Code.skip), W3_cond, c46_8_v, cond_true]; simp only [W3_ret, W3_skip, W3_exit, W3_label]
theorem c46_7_s (hw : Cur w) : W3 Try.prog 10 V46 c46_7 Q e w = (opsW (nx Try.prog) mv gdP 10 V46 o46_1 (fun e w => W3 Try.prog 10 V46 c46_8 Q e w) o46_1.toList [] e e w) := by rw [(by kernel_rfl : c46_7 = .seq (.region 1 o46_1 false) c46_8), W3_seq_reg]
theorem c46_1_s (hw : Cur w) : W3 Try.prog 10 V46 c46_1 Q e w = (W3 Try.prog 10 V46 c46_7 (seqQ (fun e w => W3 Try.prog 10 V46 c46_2 Q e w) Q) e w) := by rw [(by kernel_rfl : c46_1 = .seq c46_7 c46_2), W3_seq]
theorem c46_s (hw : Cur w) : W3 Try.prog 10 V46 c46 Q e w = (opsW (nx Try.prog) mv gdP 10 V46 o46_0 (fun e w => W3 Try.prog 10 V46 c46_1 Q e w) o46_0.toList [] e e w) := by rw [(by kernel_rfl : c46 = .seq (.region 0 o46_0 false) c46_1), W3_seq_reg]
theorem call46 {a0 : Value} {w : World} {R : Value → World → Prop} (h : W3 Try.prog 10 V46 c46 (retQ Try.prog [.tmp 2] R) (argE [a0]) w) : CallsN Try.prog 46 [a0] w R :=
  callsN_of_W3 (c := c46) (rs := [.tmp 2]) V46 Try.ntmps46 (by rw [Try.results46]) mixed Try.func46 (by kernel_rfl) (by kernel_rfl) (by kernel_rfl) (by kernel_rfl) (by simp) h
noncomputable def hk46 := And.intro (@o46_0_eq) <| And.intro (@o46_5_eq) <| And.intro (@c46_3_s) <| And.intro (@o46_3_eq) <| And.intro (@o46_4_eq) <| And.intro (@c46_6_s) <| And.intro (@c46_5_s) <| And.intro (@c46_4_s) <| And.intro (@c46_2_s) <| And.intro (@o46_1_eq) <| And.intro (@o46_2_eq) <| And.intro (@c46_9_s) <| And.intro (@c46_8_s) <| And.intro (@c46_7_s) <| And.intro (@c46_1_s) <| @c46_s
-- K46: ↓hk46
/-! ### (*vouch/vouchref05.Store) . Commit -/
def V51 : Nat → Bool := fun i => [0, 1, 4, 5, 6, 7, 11, 23].elem i
noncomputable def c51 : Code := (Try.f51.body.getD .skip)
noncomputable def o51_0 : Array Oper := rO (cL c51)
noncomputable def c51_1 : Code := (cR c51)
noncomputable def o51_1 : Array Oper := rO (cL c51_1)
noncomputable def c51_2 : Code := (cR c51_1)
noncomputable def c51_3 : Code := (cR c51_2)
noncomputable def o51_4 : Array Oper := rO (cL c51_3)
noncomputable def c51_4 : Code := (cR c51_3)
noncomputable def c51_5 : Code := (cR c51_4)
noncomputable def o51_9 : Array Oper := rO (cL c51_5)
noncomputable def c51_6 : Code := (cL c51_4)
noncomputable def o51_5 : Array Oper := rO (cL c51_6)
noncomputable def c51_7 : Code := (cR c51_6)
noncomputable def c51_8 : Code := (cL c51_7)
noncomputable def c51_9 : Code := (cL c51_8)
noncomputable def c51_10 : Code := (cR c51_9)
noncomputable def c51_11 : Code := (cR c51_10)
noncomputable def o51_7 : Array Oper := rO c51_11
noncomputable def c51_12 : Code := (cL c51_10)
noncomputable def c51_13 : Code := (cL c51_12)
noncomputable def o51_8 : Array Oper := rO c51_13
noncomputable def c51_14 : Code := (cL c51_9)
noncomputable def o51_6 : Array Oper := rO (cL c51_14)
noncomputable def c51_15 : Code := (cR c51_14)
noncomputable def c51_16 : Code := (cL c51_2)
noncomputable def o51_2 : Array Oper := rO (cL c51_16)
noncomputable def c51_17 : Code := (cR c51_16)
noncomputable def c51_18 : Code := (cL c51_17)
noncomputable def o51_3 : Array Oper := rO (cL c51_18)
theorem o51_0_eq : opsW N M G 48 V51 o51_0 k o51_0.toList [] e e w =
    (M (Value.int IntKind.i64 0) fun t4 =>
    M (Value.int IntKind.i64 0) fun t5 =>
    k (Env.p (Env.p e 4 t4) 5 t5) w) := nr (by kernel_rfl)
theorem o51_1_eq : opsW N M G 48 V51 o51_1 k o51_1.toList [] e e w =
    (M (e 1) fun t8 =>
    N (xcall (Value.func (Fn.func 82) #[] #[]) [t8]) w fun t9 w =>
    M t9 fun t6 =>
    k (Env.p e 6 t6) w) := nr (by kernel_rfl)
theorem o51_4_eq : opsW N M G 48 V51 o51_4 k o51_4.toList [] e e w =
    (M (e 0) fun t13 =>
    N (xnil t13) w fun t14 w =>
    N (xv (Instr.fieldAt 104 t14 2)) w fun t15 w =>
    N (xv (Instr.loadAt 2 t15)) w fun t16 w =>
    N (xv (xbin BinOp.add 2 (Operand.tmp 16) (Operand.const (Value.int IntKind.i64 1)) t16 (Value.int IntKind.i64 1))) w fun t17 w =>
    N (xnil t13) w fun t18 w =>
    N (xv (Instr.fieldAt 104 t18 2)) w fun t19 w =>
    N (xu (Instr.storeAt 2 t19 t17)) w fun _ w =>
    k e w) := nr (by kernel_rfl)
theorem o51_9_eq : opsW N M G 48 V51 o51_9 k o51_9.toList [] e e w =
    (M (e 0) fun t44 =>
    N (xnil t44) w fun t45 w =>
    N (xv (Instr.fieldAt 104 t45 2)) w fun t46 w =>
    N (xv (Instr.loadAt 2 t46)) w fun t47 w =>
    M t47 fun t4 =>
    M (Value.int IntKind.i64 0) fun t5 =>
    k (Env.p (Env.p e 4 t4) 5 t5) w) := nr (by kernel_rfl)
theorem c51_5_s (hw : Cur w) : W3 Try.prog 48 V51 c51_5 Q e w = (opsW (nx Try.prog) mv gdP 48 V51 o51_9 (fun e w => Q .ret e w) o51_9.toList [] e e w) := by rw [(by kernel_rfl : c51_5 = .seq (.region 9 o51_9 false) Code.ret), W3_seq_reg]; simp only [W3_ret, W3_skip, W3_exit, W3_label]
theorem o51_5_eq : opsW N M G 48 V51 o51_5 k o51_5.toList [] e e w =
    (M (Value.int IntKind.i64 0) fun t7 =>
    k (Env.p e 7 t7) w) := nr (by kernel_rfl)
theorem o51_7_eq : opsW N M G 48 V51 o51_7 k o51_7.toList [] e e w =
    (M (e 7) fun t24 =>
    N (xv (xbin BinOp.add 3 (Operand.tmp 24) (Operand.const (Value.int IntKind.i64 1)) t24 (Value.int IntKind.i64 1))) w fun t25 w =>
    M t25 fun t7 =>
    k (Env.p e 7 t7) w) := nr (by kernel_rfl)
theorem c51_11_s (hw : Cur w) : W3 Try.prog 48 V51 c51_11 Q e w = (opsW (nx Try.prog) mv gdP 48 V51 o51_7 (fun e w => Q .normal e w) o51_7.toList [] e e w) := by rw [(by kernel_rfl : c51_11 = (.region 7 o51_7 false)), W3_reg]
theorem o51_8_eq : drawGo3 N T3 M G H 48 V51 o51_8 (puK o51_8) k o51_8.size [] (Array.replicate o51_8.size false) [] e e w =
    (M (e 0) fun t26 =>
    M (e 0) fun t27 =>
    T3 (FrX none w) (xnil t27) fun t28 =>
    T3 (FrX none w) (xv (Instr.fieldAt 104 t28 0)) fun t29 =>
    T3 (FrX (some []) w) (xv (Instr.loadAt 102 t29)) fun t30 =>
    M (e 0) fun t31 =>
    T3 (FrX none w) (xnil t31) fun t32 =>
    T3 (FrX none w) (xv (Instr.fieldAt 104 t32 2)) fun t33 =>
    T3 (FrX (some []) w) (xv (Instr.loadAt 2 t33)) fun t34 =>
    M (e 1) fun t35 =>
    M (e 7) fun t36 =>
    T3 (FrX none w) (xv (Instr.indexAt 40 t35 t36)) fun t37 =>
    T3 (FrX (some []) w) (xv (Instr.loadAt 44 t37)) fun t38 =>
    T3 (FrX none w) (xv (Instr.build 155 ([(0, t34), (1, t38)]).toArray)) fun t39 =>
    N (xv (Instr.buildSlice 102 1 ([(0, t39)]).toArray)) w fun t40 w14 =>
    FrX (some []) w w14 ∧ (N (builtin Builtin.append #[102, 102] 102 ([false, false]).toArray ([t30, t40]).toArray) w14 fun t41 w15 =>
    T3 (FrX none w15) (xnil t26) fun t42 =>
    T3 (FrX none w15) (xv (Instr.fieldAt 104 t42 0)) fun t43 =>
    N (xu (Instr.storeAt 102 t43 t41)) w15 fun _ w18 =>
    (k e) w18)) := nr (by kernel_rfl)
theorem c51_13_s (hw : Cur w) : W3 Try.prog 48 V51 c51_13 Q e w = (drawGo3 (nx Try.prog) (takeP Try.prog) mv gdP gdT 48 V51 o51_8 (puK o51_8) (fun e w => Q .normal e w) o51_8.size [] (Array.replicate o51_8.size false) [] e e w.drew) := by rw [(by kernel_rfl : c51_13 = (.region 8 o51_8 true)), W3_regD']
theorem c51_12_s (hw : Cur w) : W3 Try.prog 48 V51 c51_12 Q e w = (W3 Try.prog 48 V51 c51_13 (blockQ 1 Q) e w) := by rw [(by kernel_rfl : c51_12 = .block 1 c51_13), W3_block]
theorem c51_10_s (hw : Cur w) : W3 Try.prog 48 V51 c51_10 Q e w = (W3 Try.prog 48 V51 c51_12 (seqQ (fun e w => W3 Try.prog 48 V51 c51_11 Q e w) Q) e w) := by rw [(by kernel_rfl : c51_10 = .seq c51_12 c51_11), W3_seq]
theorem o51_6_eq : opsW N M G 48 V51 o51_6 k o51_6.toList [] e e w =
    (M (e 7) fun t20 =>
    M (e 1) fun t21 =>
    N (builtin Builtin.len #[40] 3 ([false]).toArray ([t21]).toArray) w fun t22 w =>
    N (xv (xbin BinOp.lss 3 (Operand.tmp 20) (Operand.tmp 22) t20 t22)) w fun t23 w =>
    k (Env.p e 23 t23) w) := nr (by kernel_rfl)
theorem c51_15_v : opV V51 (.tmp 23) = true := by kernel_rfl
theorem c51_15_s (hw : Cur w) : W3 Try.prog 48 V51 c51_15 Q e w = (condP (ev e (.tmp 23)) (Q .normal e w) (Q (.exit 0) e w)) := by rw [(by kernel_rfl : c51_15 = .cond (.tmp 23) Code.skip (Code.exit 0)), W3_cond, c51_15_v, cond_true]; simp only [W3_ret, W3_skip, W3_exit, W3_label]
theorem c51_14_s (hw : Cur w) : W3 Try.prog 48 V51 c51_14 Q e w = (opsW (nx Try.prog) mv gdP 48 V51 o51_6 (fun e w => W3 Try.prog 48 V51 c51_15 Q e w) o51_6.toList [] e e w) := by rw [(by kernel_rfl : c51_14 = .seq (.region 6 o51_6 false) c51_15), W3_seq_reg]
theorem c51_9_s (hw : Cur w) : W3 Try.prog 48 V51 c51_9 Q e w = (W3 Try.prog 48 V51 c51_14 (seqQ (fun e w => W3 Try.prog 48 V51 c51_10 Q e w) Q) e w) := by rw [(by kernel_rfl : c51_9 = .seq c51_14 c51_10), W3_seq]
theorem c51_8_s (hw : Cur w) : W3 Try.prog 48 V51 c51_8 Q e w = (LoopP (fun e w k => W3 Try.prog 48 V51 c51_9 (seqQ k Q) e w) e w) := by rw [(by kernel_rfl : c51_8 = .loop c51_9), W3_loop]
theorem c51_7_s (hw : Cur w) : W3 Try.prog 48 V51 c51_7 Q e w = (W3 Try.prog 48 V51 c51_8 (blockQ 0 Q) e w) := by rw [(by kernel_rfl : c51_7 = .block 0 c51_8), W3_block]
theorem c51_6_s (hw : Cur w) : W3 Try.prog 48 V51 c51_6 Q e w = (opsW (nx Try.prog) mv gdP 48 V51 o51_5 (fun e w => W3 Try.prog 48 V51 c51_7 Q e w) o51_5.toList [] e e w) := by rw [(by kernel_rfl : c51_6 = .seq (.region 5 o51_5 false) c51_7), W3_seq_reg]
theorem c51_4_s (hw : Cur w) : W3 Try.prog 48 V51 c51_4 Q e w = (W3 Try.prog 48 V51 c51_6 (seqQ (fun e w => W3 Try.prog 48 V51 c51_5 Q e w) Q) e w) := by rw [(by kernel_rfl : c51_4 = .seq c51_6 c51_5), W3_seq]
theorem c51_3_s (hw : Cur w) : W3 Try.prog 48 V51 c51_3 Q e w = (opsW (nx Try.prog) mv gdP 48 V51 o51_4 (fun e w => W3 Try.prog 48 V51 c51_4 Q e w) o51_4.toList [] e e w) := by rw [(by kernel_rfl : c51_3 = .seq (.region 4 o51_4 false) c51_4), W3_seq_reg]
theorem o51_2_eq : opsW N M G 48 V51 o51_2 k o51_2.toList [] e e w =
    (M (e 6) fun t10 =>
    N (xv (xbin BinOp.neq 3 (Operand.tmp 10) (Operand.const (Value.int IntKind.i64 0)) t10 (Value.int IntKind.i64 0))) w fun t11 w =>
    k (Env.p e 11 t11) w) := nr (by kernel_rfl)
theorem o51_3_eq : opsW N M G 48 V51 o51_3 k o51_3.toList [] e e w =
    (M (e 6) fun t12 =>
    M (Value.int IntKind.i64 0) fun t4 =>
    M t12 fun t5 =>
    k (Env.p (Env.p e 4 t4) 5 t5) w) := nr (by kernel_rfl)
theorem c51_18_s (hw : Cur w) : W3 Try.prog 48 V51 c51_18 Q e w = (opsW (nx Try.prog) mv gdP 48 V51 o51_3 (fun e w => Q .ret e w) o51_3.toList [] e e w) := by rw [(by kernel_rfl : c51_18 = .seq (.region 3 o51_3 false) Code.ret), W3_seq_reg]; simp only [W3_ret, W3_skip, W3_exit, W3_label]
theorem c51_17_v : opV V51 (.tmp 11) = true := by kernel_rfl
theorem c51_17_s (hw : Cur w) : W3 Try.prog 48 V51 c51_17 Q e w = (condP (ev e (.tmp 11)) (W3 Try.prog 48 V51 c51_18 Q e w) (Q .normal e w)) := by rw [(by kernel_rfl : c51_17 = .cond (.tmp 11) c51_18 Code.skip), W3_cond, c51_17_v, cond_true]; simp only [W3_ret, W3_skip, W3_exit, W3_label]
theorem c51_16_s (hw : Cur w) : W3 Try.prog 48 V51 c51_16 Q e w = (opsW (nx Try.prog) mv gdP 48 V51 o51_2 (fun e w => W3 Try.prog 48 V51 c51_17 Q e w) o51_2.toList [] e e w) := by rw [(by kernel_rfl : c51_16 = .seq (.region 2 o51_2 false) c51_17), W3_seq_reg]
theorem c51_2_s (hw : Cur w) : W3 Try.prog 48 V51 c51_2 Q e w = (W3 Try.prog 48 V51 c51_16 (seqQ (fun e w => W3 Try.prog 48 V51 c51_3 Q e w) Q) e w) := by rw [(by kernel_rfl : c51_2 = .seq c51_16 c51_3), W3_seq]
theorem c51_1_s (hw : Cur w) : W3 Try.prog 48 V51 c51_1 Q e w = (opsW (nx Try.prog) mv gdP 48 V51 o51_1 (fun e w => W3 Try.prog 48 V51 c51_2 Q e w) o51_1.toList [] e e w) := by rw [(by kernel_rfl : c51_1 = .seq (.region 1 o51_1 false) c51_2), W3_seq_reg]
theorem c51_s (hw : Cur w) : W3 Try.prog 48 V51 c51 Q e w = (opsW (nx Try.prog) mv gdP 48 V51 o51_0 (fun e w => W3 Try.prog 48 V51 c51_1 Q e w) o51_0.toList [] e e w) := by rw [(by kernel_rfl : c51 = .seq (.region 0 o51_0 false) c51_1), W3_seq_reg]
theorem call51 {a0 a1 : Value} {w : World} {R : Value → World → Prop} (h : W3 Try.prog 48 V51 c51 (retQ Try.prog [.tmp 4, .tmp 5] R) (argE [a0, a1]) w) : CallsN Try.prog 51 [a0, a1] w R :=
  callsN_of_W3 (c := c51) (rs := [.tmp 4, .tmp 5]) V51 Try.ntmps51 (by rw [Try.results51]) mixed Try.func51 (by kernel_rfl) (by kernel_rfl) (by kernel_rfl) (by kernel_rfl) (by simp) h
noncomputable def hk51 := And.intro (@o51_0_eq) <| And.intro (@o51_1_eq) <| And.intro (@o51_4_eq) <| And.intro (@o51_9_eq) <| And.intro (@c51_5_s) <| And.intro (@o51_5_eq) <| And.intro (@o51_7_eq) <| And.intro (@c51_11_s) <| And.intro (@o51_8_eq) <| And.intro (@c51_13_s) <| And.intro (@c51_12_s) <| And.intro (@c51_10_s) <| And.intro (@o51_6_eq) <| And.intro (@c51_15_s) <| And.intro (@c51_14_s) <| And.intro (@c51_9_s) <| And.intro (@c51_8_s) <| And.intro (@c51_7_s) <| And.intro (@c51_6_s) <| And.intro (@c51_4_s) <| And.intro (@c51_3_s) <| And.intro (@o51_2_eq) <| And.intro (@o51_3_eq) <| And.intro (@c51_18_s) <| And.intro (@c51_17_s) <| And.intro (@c51_16_s) <| And.intro (@c51_2_s) <| And.intro (@c51_1_s) <| @c51_s
-- K51: ↓hk51
/-! ### (*vouch/vouchref05.Store) . Read -/
def V76 : Nat → Bool := fun i => [0, 1, 2, 6, 7, 8, 17, 25].elem i
noncomputable def c76 : Code := (Try.f76.body.getD .skip)
noncomputable def o76_0 : Array Oper := rO (cL c76)
noncomputable def c76_1 : Code := (cR c76)
noncomputable def c76_2 : Code := (cR c76_1)
noncomputable def o76_7 : Array Oper := rO (cL c76_2)
noncomputable def c76_3 : Code := (cL c76_1)
noncomputable def c76_4 : Code := (cL c76_3)
noncomputable def o76_1 : Array Oper := rO (cL c76_4)
noncomputable def c76_5 : Code := (cR c76_4)
noncomputable def c76_6 : Code := (cL c76_5)
noncomputable def o76_2 : Array Oper := rO (cL c76_6)
noncomputable def c76_7 : Code := (cR c76_5)
noncomputable def o76_3 : Array Oper := rO (cL c76_7)
noncomputable def c76_8 : Code := (cR c76_7)
noncomputable def c76_9 : Code := (cL c76_8)
noncomputable def o76_4 : Array Oper := rO (cL c76_9)
noncomputable def c76_10 : Code := (cR c76_8)
noncomputable def o76_5 : Array Oper := rO (cL c76_10)
noncomputable def c76_11 : Code := (cR c76_10)
noncomputable def c76_12 : Code := (cL c76_11)
noncomputable def o76_6 : Array Oper := rO (cL c76_12)
theorem o76_0_eq : opsW N M G 36 V76 o76_0 k o76_0.toList [] e e w =
    (N (xv (Instr.alloc 31 true (.tuple #[]))) w fun t6 w =>
    M (Value.int IntKind.i64 0) fun t7 =>
    k (Env.p (Env.p e 6 t6) 7 t7) w) := nr (by kernel_rfl)
theorem o76_7_eq : opsW N M G 36 V76 o76_7 k o76_7.toList [] e e w =
    (M (e 0) fun t32 =>
    M (e 1) fun t33 =>
    M (e 2) fun t34 =>
    N (xcall (Value.func (Fn.func 95) #[] #[]) [t32, t33, t34]) w fun t35 w =>
    N (xu (Instr.storeAt 31 (e 6) t35)) w fun _ w =>
    M (Value.int IntKind.i64 0) fun t7 =>
    k (Env.p e 7 t7) w) := nr (by kernel_rfl)
theorem c76_2_s (hw : Cur w) : W3 Try.prog 36 V76 c76_2 Q e w = (opsW (nx Try.prog) mv gdP 36 V76 o76_7 (fun e w => Q .ret e w) o76_7.toList [] e e w) := by rw [(by kernel_rfl : c76_2 = .seq (.region 7 o76_7 false) Code.ret), W3_seq_reg]; simp only [W3_ret, W3_skip, W3_exit, W3_label]
theorem o76_1_eq : opsW N M G 36 V76 o76_1 k o76_1.toList [] e e w =
    (M (e 1) fun t9 =>
    N (xcall (Value.func (Fn.func 94) #[] #[]) [t9]) w fun t10 w =>
    N (xv (Op.unary UnOp.not t10)) w fun t11 w =>
    M t11 fun t12 =>
    G (isB t12 false) (fun K => M (e 2) fun v => K v w) (fun t13 w =>
    G (isB t12 false) (fun K => N (xv (xbin BinOp.lss 2 (Operand.tmp 13) (Operand.const (Value.int IntKind.i64 0)) t13 (Value.int IntKind.i64 0))) w K) (fun t14 w =>
    N (xpick t12 (Value.bool true) t14) w fun t15 w =>
    M t15 fun t8 =>
    k (Env.p e 8 t8) w) w) w) := nr (by kernel_rfl)
theorem o76_2_eq : opsW N M G 36 V76 o76_2 k o76_2.toList [] e e w =
    (N (xv (Instr.build 31 ([]).toArray)) w fun t16 w =>
    N (xu (Instr.storeAt 31 (e 6) t16)) w fun _ w =>
    M (Value.int IntKind.i64 1) fun t7 =>
    k (Env.p e 7 t7) w) := nr (by kernel_rfl)
theorem c76_6_s (hw : Cur w) : W3 Try.prog 36 V76 c76_6 Q e w = (opsW (nx Try.prog) mv gdP 36 V76 o76_2 (fun e w => Q .ret e w) o76_2.toList [] e e w) := by rw [(by kernel_rfl : c76_6 = .seq (.region 2 o76_2 false) Code.ret), W3_seq_reg]; simp only [W3_ret, W3_skip, W3_exit, W3_label]
theorem o76_3_eq : opsW N M G 36 V76 o76_3 k o76_3.toList [] e e w =
    (M (e 2) fun t18 =>
    M (e 0) fun t19 =>
    N (xnil t19) w fun t20 w =>
    N (xv (Instr.fieldAt 104 t20 2)) w fun t21 w =>
    N (xv (Instr.loadAt 2 t21)) w fun t22 w =>
    N (xv (xbin BinOp.gtr 2 (Operand.tmp 18) (Operand.tmp 22) t18 t22)) w fun t23 w =>
    M t23 fun t17 =>
    k (Env.p e 17 t17) w) := nr (by kernel_rfl)
theorem o76_4_eq : opsW N M G 36 V76 o76_4 k o76_4.toList [] e e w =
    (N (xv (Instr.build 31 ([]).toArray)) w fun t24 w =>
    N (xu (Instr.storeAt 31 (e 6) t24)) w fun _ w =>
    M (Value.int IntKind.i64 21) fun t7 =>
    k (Env.p e 7 t7) w) := nr (by kernel_rfl)
theorem c76_9_s (hw : Cur w) : W3 Try.prog 36 V76 c76_9 Q e w = (opsW (nx Try.prog) mv gdP 36 V76 o76_4 (fun e w => Q .ret e w) o76_4.toList [] e e w) := by rw [(by kernel_rfl : c76_9 = .seq (.region 4 o76_4 false) Code.ret), W3_seq_reg]; simp only [W3_ret, W3_skip, W3_exit, W3_label]
theorem o76_5_eq : opsW N M G 36 V76 o76_5 k o76_5.toList [] e e w =
    (M (e 2) fun t26 =>
    M (e 0) fun t27 =>
    M (e 1) fun t28 =>
    N (xcall (Value.func (Fn.func 77) #[] #[]) [t27, t28]) w fun t29 w =>
    N (xv (xbin BinOp.lss 2 (Operand.tmp 26) (Operand.tmp 29) t26 t29)) w fun t30 w =>
    M t30 fun t25 =>
    k (Env.p e 25 t25) w) := nr (by kernel_rfl)
theorem o76_6_eq : opsW N M G 36 V76 o76_6 k o76_6.toList [] e e w =
    (N (xv (Instr.build 31 ([]).toArray)) w fun t31 w =>
    N (xu (Instr.storeAt 31 (e 6) t31)) w fun _ w =>
    M (Value.int IntKind.i64 20) fun t7 =>
    k (Env.p e 7 t7) w) := nr (by kernel_rfl)
theorem c76_12_s (hw : Cur w) : W3 Try.prog 36 V76 c76_12 Q e w = (opsW (nx Try.prog) mv gdP 36 V76 o76_6 (fun e w => Q .ret e w) o76_6.toList [] e e w) := by rw [(by kernel_rfl : c76_12 = .seq (.region 6 o76_6 false) Code.ret), W3_seq_reg]; simp only [W3_ret, W3_skip, W3_exit, W3_label]
theorem c76_11_v : opV V76 (.tmp 25) = true := by kernel_rfl
theorem c76_11_s (hw : Cur w) : W3 Try.prog 36 V76 c76_11 Q e w = (condP (ev e (.tmp 25)) (W3 Try.prog 36 V76 c76_12 Q e w) (Q .normal e w)) := by rw [(by kernel_rfl : c76_11 = .cond (.tmp 25) c76_12 Code.skip), W3_cond, c76_11_v, cond_true]; simp only [W3_ret, W3_skip, W3_exit, W3_label]
theorem c76_10_s (hw : Cur w) : W3 Try.prog 36 V76 c76_10 Q e w = (opsW (nx Try.prog) mv gdP 36 V76 o76_5 (fun e w => W3 Try.prog 36 V76 c76_11 Q e w) o76_5.toList [] e e w) := by rw [(by kernel_rfl : c76_10 = .seq (.region 5 o76_5 false) c76_11), W3_seq_reg]
theorem c76_8_v : opV V76 (.tmp 17) = true := by kernel_rfl
theorem c76_8_s (hw : Cur w) : W3 Try.prog 36 V76 c76_8 Q e w = (condP (ev e (.tmp 17)) (W3 Try.prog 36 V76 c76_9 Q e w) (W3 Try.prog 36 V76 c76_10 Q e w)) := by rw [(by kernel_rfl : c76_8 = .cond (.tmp 17) c76_9 c76_10), W3_cond, c76_8_v, cond_true]
theorem c76_7_s (hw : Cur w) : W3 Try.prog 36 V76 c76_7 Q e w = (opsW (nx Try.prog) mv gdP 36 V76 o76_3 (fun e w => W3 Try.prog 36 V76 c76_8 Q e w) o76_3.toList [] e e w) := by rw [(by kernel_rfl : c76_7 = .seq (.region 3 o76_3 false) c76_8), W3_seq_reg]
theorem c76_5_v : opV V76 (.tmp 8) = true := by kernel_rfl
theorem c76_5_s (hw : Cur w) : W3 Try.prog 36 V76 c76_5 Q e w = (condP (ev e (.tmp 8)) (W3 Try.prog 36 V76 c76_6 Q e w) (W3 Try.prog 36 V76 c76_7 Q e w)) := by rw [(by kernel_rfl : c76_5 = .cond (.tmp 8) c76_6 c76_7), W3_cond, c76_5_v, cond_true]
theorem c76_4_s (hw : Cur w) : W3 Try.prog 36 V76 c76_4 Q e w = (opsW (nx Try.prog) mv gdP 36 V76 o76_1 (fun e w => W3 Try.prog 36 V76 c76_5 Q e w) o76_1.toList [] e e w) := by rw [(by kernel_rfl : c76_4 = .seq (.region 1 o76_1 false) c76_5), W3_seq_reg]
theorem c76_3_s (hw : Cur w) : W3 Try.prog 36 V76 c76_3 Q e w = (W3 Try.prog 36 V76 c76_4 (blockQ 0 Q) e w) := by rw [(by kernel_rfl : c76_3 = .block 0 c76_4), W3_block]
theorem c76_1_s (hw : Cur w) : W3 Try.prog 36 V76 c76_1 Q e w = (W3 Try.prog 36 V76 c76_3 (seqQ (fun e w => W3 Try.prog 36 V76 c76_2 Q e w) Q) e w) := by rw [(by kernel_rfl : c76_1 = .seq c76_3 c76_2), W3_seq]
theorem c76_s (hw : Cur w) : W3 Try.prog 36 V76 c76 Q e w = (opsW (nx Try.prog) mv gdP 36 V76 o76_0 (fun e w => W3 Try.prog 36 V76 c76_1 Q e w) o76_0.toList [] e e w) := by rw [(by kernel_rfl : c76 = .seq (.region 0 o76_0 false) c76_1), W3_seq_reg]
theorem call76 {a0 a1 a2 : Value} {w : World} {R : Value → World → Prop} (h : W3 Try.prog 36 V76 c76 (retQ Try.prog [.cell 6 31, .tmp 7] R) (argE [a0, a1, a2]) w) : CallsN Try.prog 76 [a0, a1, a2] w R :=
  callsN_of_W3 (c := c76) (rs := [.cell 6 31, .tmp 7]) V76 Try.ntmps76 (by rw [Try.results76]) mixed Try.func76 (by kernel_rfl) (by kernel_rfl) (by kernel_rfl) (by kernel_rfl) (by simp) h
noncomputable def hk76 := And.intro (@o76_0_eq) <| And.intro (@o76_7_eq) <| And.intro (@c76_2_s) <| And.intro (@o76_1_eq) <| And.intro (@o76_2_eq) <| And.intro (@c76_6_s) <| And.intro (@o76_3_eq) <| And.intro (@o76_4_eq) <| And.intro (@c76_9_s) <| And.intro (@o76_5_eq) <| And.intro (@o76_6_eq) <| And.intro (@c76_12_s) <| And.intro (@c76_11_s) <| And.intro (@c76_10_s) <| And.intro (@c76_8_s) <| And.intro (@c76_7_s) <| And.intro (@c76_5_s) <| And.intro (@c76_4_s) <| And.intro (@c76_3_s) <| And.intro (@c76_1_s) <| @c76_s
-- K76: ↓hk76
/-! ### (*vouch/vouchref05.Store) . Oldest -/
def V77 : Nat → Bool := fun i => [0, 1, 4, 5, 15].elem i
noncomputable def c77 : Code := (Try.f77.body.getD .skip)
noncomputable def o77_0 : Array Oper := rO (cL c77)
noncomputable def c77_1 : Code := (cR c77)
noncomputable def o77_1 : Array Oper := rO (cL c77_1)
noncomputable def c77_2 : Code := (cR c77_1)
noncomputable def c77_3 : Code := (cR c77_2)
noncomputable def o77_4 : Array Oper := rO (cL c77_3)
noncomputable def c77_4 : Code := (cL c77_2)
noncomputable def o77_2 : Array Oper := rO (cL c77_4)
noncomputable def c77_5 : Code := (cR c77_4)
noncomputable def c77_6 : Code := (cL c77_5)
noncomputable def o77_3 : Array Oper := rO (cL c77_6)
theorem o77_0_eq : opsW N M G 27 V77 o77_0 k o77_0.toList [] e e w =
    (M (Value.int IntKind.i64 0) fun t4 =>
    k (Env.p e 4 t4) w) := nr (by kernel_rfl)
theorem o77_1_eq : opsW N M G 27 V77 o77_1 k o77_1.toList [] e e w =
    (M (e 0) fun t6 =>
    M (e 1) fun t7 =>
    N (xcall (Value.func (Fn.func 96) #[] #[]) [t6, t7]) w fun t8 w =>
    M t8 fun t5 =>
    k (Env.p e 5 t5) w) := nr (by kernel_rfl)
theorem o77_4_eq : opsW N M G 27 V77 o77_4 k o77_4.toList [] e e w =
    (M (Value.int IntKind.i64 0) fun t4 =>
    k (Env.p e 4 t4) w) := nr (by kernel_rfl)
theorem c77_3_s (hw : Cur w) : W3 Try.prog 27 V77 c77_3 Q e w = (opsW (nx Try.prog) mv gdP 27 V77 o77_4 (fun e w => Q .ret e w) o77_4.toList [] e e w) := by rw [(by kernel_rfl : c77_3 = .seq (.region 4 o77_4 false) Code.ret), W3_seq_reg]; simp only [W3_ret, W3_skip, W3_exit, W3_label]
theorem o77_2_eq : opsW N M G 27 V77 o77_2 k o77_2.toList [] e e w =
    (M (e 5) fun t9 =>
    N (builtin Builtin.len #[46] 3 ([false]).toArray ([t9]).toArray) w fun t10 w =>
    M (e 0) fun t11 =>
    N (xnil t11) w fun t12 w =>
    N (xv (Instr.fieldAt 104 t12 1)) w fun t13 w =>
    N (xv (Instr.loadAt 3 t13)) w fun t14 w =>
    N (xv (xbin BinOp.gtr 3 (Operand.tmp 10) (Operand.tmp 14) t10 t14)) w fun t15 w =>
    k (Env.p e 15 t15) w) := nr (by kernel_rfl)
theorem o77_3_eq : opsW N M G 27 V77 o77_3 k o77_3.toList [] e e w =
    (M (e 5) fun t16 =>
    M (e 5) fun t17 =>
    N (builtin Builtin.len #[46] 3 ([false]).toArray ([t17]).toArray) w fun t18 w =>
    M (e 0) fun t19 =>
    N (xnil t19) w fun t20 w =>
    N (xv (Instr.fieldAt 104 t20 1)) w fun t21 w =>
    N (xv (Instr.loadAt 3 t21)) w fun t22 w =>
    N (xv (xbin BinOp.sub 3 (Operand.tmp 18) (Operand.tmp 22) t18 t22)) w fun t23 w =>
    N (xv (Instr.indexAt 46 t16 t23)) w fun t24 w =>
    N (xv (Instr.fieldAt 106 t24 0)) w fun t25 w =>
    N (xv (Instr.loadAt 2 t25)) w fun t26 w =>
    M t26 fun t4 =>
    k (Env.p e 4 t4) w) := nr (by kernel_rfl)
theorem c77_6_s (hw : Cur w) : W3 Try.prog 27 V77 c77_6 Q e w = (opsW (nx Try.prog) mv gdP 27 V77 o77_3 (fun e w => Q .ret e w) o77_3.toList [] e e w) := by rw [(by kernel_rfl : c77_6 = .seq (.region 3 o77_3 false) Code.ret), W3_seq_reg]; simp only [W3_ret, W3_skip, W3_exit, W3_label]
theorem c77_5_v : opV V77 (.tmp 15) = true := by kernel_rfl
theorem c77_5_s (hw : Cur w) : W3 Try.prog 27 V77 c77_5 Q e w = (condP (ev e (.tmp 15)) (W3 Try.prog 27 V77 c77_6 Q e w) (Q .normal e w)) := by rw [(by kernel_rfl : c77_5 = .cond (.tmp 15) c77_6 Code.skip), W3_cond, c77_5_v, cond_true]; simp only [W3_ret, W3_skip, W3_exit, W3_label]
theorem c77_4_s (hw : Cur w) : W3 Try.prog 27 V77 c77_4 Q e w = (opsW (nx Try.prog) mv gdP 27 V77 o77_2 (fun e w => W3 Try.prog 27 V77 c77_5 Q e w) o77_2.toList [] e e w) := by rw [(by kernel_rfl : c77_4 = .seq (.region 2 o77_2 false) c77_5), W3_seq_reg]
theorem c77_2_s (hw : Cur w) : W3 Try.prog 27 V77 c77_2 Q e w = (W3 Try.prog 27 V77 c77_4 (seqQ (fun e w => W3 Try.prog 27 V77 c77_3 Q e w) Q) e w) := by rw [(by kernel_rfl : c77_2 = .seq c77_4 c77_3), W3_seq]
theorem c77_1_s (hw : Cur w) : W3 Try.prog 27 V77 c77_1 Q e w = (opsW (nx Try.prog) mv gdP 27 V77 o77_1 (fun e w => W3 Try.prog 27 V77 c77_2 Q e w) o77_1.toList [] e e w) := by rw [(by kernel_rfl : c77_1 = .seq (.region 1 o77_1 false) c77_2), W3_seq_reg]
theorem c77_s (hw : Cur w) : W3 Try.prog 27 V77 c77 Q e w = (opsW (nx Try.prog) mv gdP 27 V77 o77_0 (fun e w => W3 Try.prog 27 V77 c77_1 Q e w) o77_0.toList [] e e w) := by rw [(by kernel_rfl : c77 = .seq (.region 0 o77_0 false) c77_1), W3_seq_reg]
theorem call77 {a0 a1 : Value} {w : World} {R : Value → World → Prop} (h : W3 Try.prog 27 V77 c77 (retQ Try.prog [.tmp 4] R) (argE [a0, a1]) w) : CallsN Try.prog 77 [a0, a1] w R :=
  callsN_of_W3 (c := c77) (rs := [.tmp 4]) V77 Try.ntmps77 (by rw [Try.results77]) mixed Try.func77 (by kernel_rfl) (by kernel_rfl) (by kernel_rfl) (by kernel_rfl) (by simp) h
noncomputable def hk77 := And.intro (@o77_0_eq) <| And.intro (@o77_1_eq) <| And.intro (@o77_4_eq) <| And.intro (@c77_3_s) <| And.intro (@o77_2_eq) <| And.intro (@o77_3_eq) <| And.intro (@c77_6_s) <| And.intro (@c77_5_s) <| And.intro (@c77_4_s) <| And.intro (@c77_2_s) <| And.intro (@c77_1_s) <| @c77_s
-- K77: ↓hk77
/-! ### (*vouch/vouchref05.Store) . Kept -/
def V79 : Nat → Bool := fun i => [0, 1, 4, 5, 15].elem i
noncomputable def c79 : Code := (Try.f79.body.getD .skip)
noncomputable def o79_0 : Array Oper := rO (cL c79)
noncomputable def c79_1 : Code := (cR c79)
noncomputable def o79_1 : Array Oper := rO (cL c79_1)
noncomputable def c79_2 : Code := (cR c79_1)
noncomputable def c79_3 : Code := (cR c79_2)
noncomputable def o79_4 : Array Oper := rO (cL c79_3)
noncomputable def c79_4 : Code := (cL c79_2)
noncomputable def o79_2 : Array Oper := rO (cL c79_4)
noncomputable def c79_5 : Code := (cR c79_4)
noncomputable def c79_6 : Code := (cL c79_5)
noncomputable def o79_3 : Array Oper := rO (cL c79_6)
theorem o79_0_eq : opsW N M G 26 V79 o79_0 k o79_0.toList [] e e w =
    (M (Value.slice none 0 0) fun t4 =>
    k (Env.p e 4 t4) w) := nr (by kernel_rfl)
theorem o79_1_eq : opsW N M G 26 V79 o79_1 k o79_1.toList [] e e w =
    (M (e 0) fun t6 =>
    M (e 1) fun t7 =>
    N (xcall (Value.func (Fn.func 96) #[] #[]) [t6, t7]) w fun t8 w =>
    M t8 fun t5 =>
    k (Env.p e 5 t5) w) := nr (by kernel_rfl)
theorem o79_4_eq : opsW N M G 26 V79 o79_4 k o79_4.toList [] e e w =
    (M (e 5) fun t25 =>
    M t25 fun t4 =>
    k (Env.p e 4 t4) w) := nr (by kernel_rfl)
theorem c79_3_s (hw : Cur w) : W3 Try.prog 26 V79 c79_3 Q e w = (opsW (nx Try.prog) mv gdP 26 V79 o79_4 (fun e w => Q .ret e w) o79_4.toList [] e e w) := by rw [(by kernel_rfl : c79_3 = .seq (.region 4 o79_4 false) Code.ret), W3_seq_reg]; simp only [W3_ret, W3_skip, W3_exit, W3_label]
theorem o79_2_eq : opsW N M G 26 V79 o79_2 k o79_2.toList [] e e w =
    (M (e 5) fun t9 =>
    N (builtin Builtin.len #[46] 3 ([false]).toArray ([t9]).toArray) w fun t10 w =>
    M (e 0) fun t11 =>
    N (xnil t11) w fun t12 w =>
    N (xv (Instr.fieldAt 104 t12 1)) w fun t13 w =>
    N (xv (Instr.loadAt 3 t13)) w fun t14 w =>
    N (xv (xbin BinOp.gtr 3 (Operand.tmp 10) (Operand.tmp 14) t10 t14)) w fun t15 w =>
    k (Env.p e 15 t15) w) := nr (by kernel_rfl)
theorem o79_3_eq : opsW N M G 26 V79 o79_3 k o79_3.toList [] e e w =
    (M (e 5) fun t16 =>
    M (e 5) fun t17 =>
    N (builtin Builtin.len #[46] 3 ([false]).toArray ([t17]).toArray) w fun t18 w =>
    M (e 0) fun t19 =>
    N (xnil t19) w fun t20 w =>
    N (xv (Instr.fieldAt 104 t20 1)) w fun t21 w =>
    N (xv (Instr.loadAt 3 t21)) w fun t22 w =>
    N (xv (xbin BinOp.sub 3 (Operand.tmp 18) (Operand.tmp 22) t18 t22)) w fun t23 w =>
    N (xv (Instr.sliceAt 46 t16 (some t23) none none)) w fun t24 w =>
    M t24 fun t4 =>
    k (Env.p e 4 t4) w) := nr (by kernel_rfl)
theorem c79_6_s (hw : Cur w) : W3 Try.prog 26 V79 c79_6 Q e w = (opsW (nx Try.prog) mv gdP 26 V79 o79_3 (fun e w => Q .ret e w) o79_3.toList [] e e w) := by rw [(by kernel_rfl : c79_6 = .seq (.region 3 o79_3 false) Code.ret), W3_seq_reg]; simp only [W3_ret, W3_skip, W3_exit, W3_label]
theorem c79_5_v : opV V79 (.tmp 15) = true := by kernel_rfl
theorem c79_5_s (hw : Cur w) : W3 Try.prog 26 V79 c79_5 Q e w = (condP (ev e (.tmp 15)) (W3 Try.prog 26 V79 c79_6 Q e w) (Q .normal e w)) := by rw [(by kernel_rfl : c79_5 = .cond (.tmp 15) c79_6 Code.skip), W3_cond, c79_5_v, cond_true]; simp only [W3_ret, W3_skip, W3_exit, W3_label]
theorem c79_4_s (hw : Cur w) : W3 Try.prog 26 V79 c79_4 Q e w = (opsW (nx Try.prog) mv gdP 26 V79 o79_2 (fun e w => W3 Try.prog 26 V79 c79_5 Q e w) o79_2.toList [] e e w) := by rw [(by kernel_rfl : c79_4 = .seq (.region 2 o79_2 false) c79_5), W3_seq_reg]
theorem c79_2_s (hw : Cur w) : W3 Try.prog 26 V79 c79_2 Q e w = (W3 Try.prog 26 V79 c79_4 (seqQ (fun e w => W3 Try.prog 26 V79 c79_3 Q e w) Q) e w) := by rw [(by kernel_rfl : c79_2 = .seq c79_4 c79_3), W3_seq]
theorem c79_1_s (hw : Cur w) : W3 Try.prog 26 V79 c79_1 Q e w = (opsW (nx Try.prog) mv gdP 26 V79 o79_1 (fun e w => W3 Try.prog 26 V79 c79_2 Q e w) o79_1.toList [] e e w) := by rw [(by kernel_rfl : c79_1 = .seq (.region 1 o79_1 false) c79_2), W3_seq_reg]
theorem c79_s (hw : Cur w) : W3 Try.prog 26 V79 c79 Q e w = (opsW (nx Try.prog) mv gdP 26 V79 o79_0 (fun e w => W3 Try.prog 26 V79 c79_1 Q e w) o79_0.toList [] e e w) := by rw [(by kernel_rfl : c79 = .seq (.region 0 o79_0 false) c79_1), W3_seq_reg]
theorem call79 {a0 a1 : Value} {w : World} {R : Value → World → Prop} (h : W3 Try.prog 26 V79 c79 (retQ Try.prog [.tmp 4] R) (argE [a0, a1]) w) : CallsN Try.prog 79 [a0, a1] w R :=
  callsN_of_W3 (c := c79) (rs := [.tmp 4]) V79 Try.ntmps79 (by rw [Try.results79]) mixed Try.func79 (by kernel_rfl) (by kernel_rfl) (by kernel_rfl) (by kernel_rfl) (by simp) h
noncomputable def hk79 := And.intro (@o79_0_eq) <| And.intro (@o79_1_eq) <| And.intro (@o79_4_eq) <| And.intro (@c79_3_s) <| And.intro (@o79_2_eq) <| And.intro (@o79_3_eq) <| And.intro (@c79_6_s) <| And.intro (@c79_5_s) <| And.intro (@c79_4_s) <| And.intro (@c79_2_s) <| And.intro (@c79_1_s) <| @c79_s
-- K79: ↓hk79
/-! ### (*vouch/vouchref05.Store) . Keys -/
def V50 : Nat → Bool := fun i => [0, 2, 3, 4, 5, 6, 13, 46, 49].elem i
noncomputable def c50 : Code := (Try.f50.body.getD .skip)
noncomputable def o50_0 : Array Oper := rO (cL c50)
noncomputable def c50_1 : Code := (cR c50)
noncomputable def o50_1 : Array Oper := rO (cL c50_1)
noncomputable def c50_2 : Code := (cR c50_1)
noncomputable def c50_3 : Code := (cL c50_2)
noncomputable def c50_4 : Code := (cL c50_3)
noncomputable def c50_5 : Code := (cL c50_4)
noncomputable def o50_2 : Array Oper := rO (cL c50_5)
noncomputable def c50_6 : Code := (cR c50_5)
noncomputable def c50_7 : Code := (cR c50_6)
noncomputable def c50_8 : Code := (cR c50_7)
noncomputable def o50_11 : Array Oper := rO c50_8
noncomputable def c50_9 : Code := (cL c50_7)
noncomputable def o50_9 : Array Oper := rO (cL c50_9)
noncomputable def c50_10 : Code := (cR c50_9)
noncomputable def c50_11 : Code := (cL c50_10)
noncomputable def o50_10 : Array Oper := rO (cL c50_11)
noncomputable def c50_12 : Code := (cL c50_6)
noncomputable def o50_3 : Array Oper := rO (cL c50_12)
noncomputable def c50_13 : Code := (cR c50_12)
noncomputable def c50_14 : Code := (cL c50_13)
noncomputable def c50_15 : Code := (cL c50_14)
noncomputable def c50_16 : Code := (cR c50_15)
noncomputable def c50_17 : Code := (cR c50_16)
noncomputable def o50_5 : Array Oper := rO c50_17
noncomputable def c50_18 : Code := (cL c50_16)
noncomputable def c50_19 : Code := (cL c50_18)
noncomputable def o50_6 : Array Oper := rO (cL c50_19)
noncomputable def c50_20 : Code := (cR c50_19)
noncomputable def o50_7 : Array Oper := rO (cL c50_20)
noncomputable def c50_21 : Code := (cR c50_20)
noncomputable def c50_22 : Code := (cL c50_21)
noncomputable def o50_8 : Array Oper := rO c50_22
noncomputable def c50_23 : Code := (cL c50_15)
noncomputable def o50_4 : Array Oper := rO (cL c50_23)
noncomputable def c50_24 : Code := (cR c50_23)
theorem o50_0_eq : opsW N M G 55 V50 o50_0 k o50_0.toList [] e e w =
    (M (Value.slice none 0 0) fun t2 =>
    k (Env.p e 2 t2) w) := nr (by kernel_rfl)
theorem o50_1_eq : opsW N M G 55 V50 o50_1 k o50_1.toList [] e e w =
    (M (Value.slice none 0 0) fun t3 =>
    k (Env.p e 3 t3) w) := nr (by kernel_rfl)
theorem o50_2_eq : opsW N M G 55 V50 o50_2 k o50_2.toList [] e e w =
    (M (Value.string ⟨#[]⟩) fun t4 =>
    k (Env.p e 4 t4) w) := nr (by kernel_rfl)
theorem o50_11_eq : opsW N M G 55 V50 o50_11 k o50_11.toList [] e e w =
    (M (e 3) fun t51 =>
    M (e 4) fun t52 =>
    N (xv (Instr.buildSlice 52 1 ([(0, t52)]).toArray)) w fun t53 w =>
    N (builtin Builtin.append #[52, 52] 52 ([false, false]).toArray ([t51, t53]).toArray) w fun t54 w =>
    M t54 fun t3 =>
    k (Env.p e 3 t3) w) := nr (by kernel_rfl)
theorem c50_8_s (hw : Cur w) : W3 Try.prog 55 V50 c50_8 Q e w = (opsW (nx Try.prog) mv gdP 55 V50 o50_11 (fun e w => Q .normal e w) o50_11.toList [] e e w) := by rw [(by kernel_rfl : c50_8 = (.region 11 o50_11 false)), W3_reg]
theorem o50_9_eq : opsW N M G 55 V50 o50_9 k o50_9.toList [] e e w =
    (M (e 4) fun t48 =>
    N (xv (xbin BinOp.eql 9 (Operand.tmp 48) (Operand.const (Value.string ⟨#[]⟩)) t48 (Value.string ⟨#[]⟩))) w fun t49 w =>
    k (Env.p e 49 t49) w) := nr (by kernel_rfl)
theorem o50_10_eq : opsW N M G 55 V50 o50_10 k o50_10.toList [] e e w =
    (M (e 3) fun t50 =>
    M t50 fun t2 =>
    k (Env.p e 2 t2) w) := nr (by kernel_rfl)
theorem c50_11_s (hw : Cur w) : W3 Try.prog 55 V50 c50_11 Q e w = (opsW (nx Try.prog) mv gdP 55 V50 o50_10 (fun e w => Q .ret e w) o50_10.toList [] e e w) := by rw [(by kernel_rfl : c50_11 = .seq (.region 10 o50_10 false) Code.ret), W3_seq_reg]; simp only [W3_ret, W3_skip, W3_exit, W3_label]
theorem c50_10_v : opV V50 (.tmp 49) = true := by kernel_rfl
theorem c50_10_s (hw : Cur w) : W3 Try.prog 55 V50 c50_10 Q e w = (condP (ev e (.tmp 49)) (W3 Try.prog 55 V50 c50_11 Q e w) (Q .normal e w)) := by rw [(by kernel_rfl : c50_10 = .cond (.tmp 49) c50_11 Code.skip), W3_cond, c50_10_v, cond_true]; simp only [W3_ret, W3_skip, W3_exit, W3_label]
theorem c50_9_s (hw : Cur w) : W3 Try.prog 55 V50 c50_9 Q e w = (opsW (nx Try.prog) mv gdP 55 V50 o50_9 (fun e w => W3 Try.prog 55 V50 c50_10 Q e w) o50_9.toList [] e e w) := by rw [(by kernel_rfl : c50_9 = .seq (.region 9 o50_9 false) c50_10), W3_seq_reg]
theorem c50_7_s (hw : Cur w) : W3 Try.prog 55 V50 c50_7 Q e w = (W3 Try.prog 55 V50 c50_9 (seqQ (fun e w => W3 Try.prog 55 V50 c50_8 Q e w) Q) e w) := by rw [(by kernel_rfl : c50_7 = .seq c50_9 c50_8), W3_seq]
theorem o50_3_eq : opsW N M G 55 V50 o50_3 k o50_3.toList [] e e w =
    (M (Value.int IntKind.i64 0) fun t5 =>
    k (Env.p e 5 t5) w) := nr (by kernel_rfl)
theorem o50_5_eq : opsW N M G 55 V50 o50_5 k o50_5.toList [] e e w =
    (M (e 5) fun t14 =>
    N (xv (xbin BinOp.add 3 (Operand.tmp 14) (Operand.const (Value.int IntKind.i64 1)) t14 (Value.int IntKind.i64 1))) w fun t15 w =>
    M t15 fun t5 =>
    k (Env.p e 5 t5) w) := nr (by kernel_rfl)
theorem c50_17_s (hw : Cur w) : W3 Try.prog 55 V50 c50_17 Q e w = (opsW (nx Try.prog) mv gdP 55 V50 o50_5 (fun e w => Q .normal e w) o50_5.toList [] e e w) := by rw [(by kernel_rfl : c50_17 = (.region 5 o50_5 false)), W3_reg]
theorem o50_6_eq : opsW N M G 55 V50 o50_6 k o50_6.toList [] e e w =
    (M (e 0) fun t16 =>
    N (xnil t16) w fun t17 w =>
    N (xv (Instr.fieldAt 104 t17 0)) w fun t18 w =>
    N (xv (Instr.loadAt 102 t18)) w fun t19 w =>
    M (e 5) fun t20 =>
    N (xv (Instr.indexAt 102 t19 t20)) w fun t21 w =>
    N (xv (Instr.fieldAt 155 t21 1)) w fun t22 w =>
    N (xv (Instr.fieldAt 44 t22 0)) w fun t23 w =>
    N (xv (Instr.loadAt 9 t23)) w fun t24 w =>
    M t24 fun t6 =>
    k (Env.p e 6 t6) w) := nr (by kernel_rfl)
theorem o50_7_eq : opsW N M G 55 V50 o50_7 k o50_7.toList [] e e w =
    (M (e 3) fun t25 =>
    N (builtin Builtin.len #[52] 3 ([false]).toArray ([t25]).toArray) w fun t26 w =>
    N (xv (xbin BinOp.eql 3 (Operand.tmp 26) (Operand.const (Value.int IntKind.i64 0)) t26 (Value.int IntKind.i64 0))) w fun t27 w =>
    M t27 fun t28 =>
    G (isB t28 false) (fun K => M (e 6) fun v => K v w) (fun t29 w =>
    G (isB t28 false) (fun K => M (e 3) fun v => K v w) (fun t30 w =>
    G (isB t28 false) (fun K => M (e 3) fun v => K v w) (fun t31 w =>
    G (isB t28 false) (fun K => N (builtin Builtin.len #[52] 3 ([false]).toArray ([t31]).toArray) w K) (fun t32 w =>
    G (isB t28 false) (fun K => N (xv (xbin BinOp.sub 3 (Operand.tmp 32) (Operand.const (Value.int IntKind.i64 1)) t32 (Value.int IntKind.i64 1))) w K) (fun t33 w =>
    G (isB t28 false) (fun K => N (xv (Instr.indexAt 52 t30 t33)) w K) (fun t34 w =>
    G (isB t28 false) (fun K => N (xv (Instr.loadAt 9 t34)) w K) (fun t35 w =>
    G (isB t28 false) (fun K => N (xv (xbin BinOp.gtr 9 (Operand.tmp 29) (Operand.tmp 35) t29 t35)) w K) (fun t36 w =>
    N (xpick t28 (Value.bool true) t36) w fun t37 w =>
    M t37 fun t38 =>
    G (isB t38 true) (fun K => M (e 4) fun v => K v w) (fun t39 w =>
    G (isB t38 true) (fun K => N (xv (xbin BinOp.eql 9 (Operand.tmp 39) (Operand.const (Value.string ⟨#[]⟩)) t39 (Value.string ⟨#[]⟩))) w K) (fun t40 w =>
    G (isB t38 true) (fun K => M t40 fun v => K v w) (fun t41 w =>
    G (isB t41 false) (fun K => M (e 6) fun v => K v w) (fun t42 w =>
    G (isB t41 false) (fun K => M (e 4) fun v => K v w) (fun t43 w =>
    G (isB t41 false) (fun K => N (xv (xbin BinOp.lss 9 (Operand.tmp 42) (Operand.tmp 43) t42 t43)) w K) (fun t44 w =>
    G (isB t38 true) (fun K => N (xpick t41 (Value.bool true) t44) w K) (fun t45 w =>
    N (xpick t38 t45 (Value.bool false)) w fun t46 w =>
    k (Env.p e 46 t46) w) w) w) w) w) w) w) w) w) w) w) w) w) w) w) w) := nr (by kernel_rfl)
theorem o50_8_eq : opsW N M G 55 V50 o50_8 k o50_8.toList [] e e w =
    (M (e 6) fun t47 =>
    M t47 fun t4 =>
    k (Env.p e 4 t4) w) := nr (by kernel_rfl)
theorem c50_22_s (hw : Cur w) : W3 Try.prog 55 V50 c50_22 Q e w = (opsW (nx Try.prog) mv gdP 55 V50 o50_8 (fun e w => Q .normal e w) o50_8.toList [] e e w) := by rw [(by kernel_rfl : c50_22 = (.region 8 o50_8 false)), W3_reg]
theorem c50_21_v : opV V50 (.tmp 46) = true := by kernel_rfl
theorem c50_21_s (hw : Cur w) : W3 Try.prog 55 V50 c50_21 Q e w = (condP (ev e (.tmp 46)) (W3 Try.prog 55 V50 c50_22 Q e w) (Q .normal e w)) := by rw [(by kernel_rfl : c50_21 = .cond (.tmp 46) c50_22 Code.skip), W3_cond, c50_21_v, cond_true]; simp only [W3_ret, W3_skip, W3_exit, W3_label]
theorem c50_20_s (hw : Cur w) : W3 Try.prog 55 V50 c50_20 Q e w = (opsW (nx Try.prog) mv gdP 55 V50 o50_7 (fun e w => W3 Try.prog 55 V50 c50_21 Q e w) o50_7.toList [] e e w) := by rw [(by kernel_rfl : c50_20 = .seq (.region 7 o50_7 false) c50_21), W3_seq_reg]
theorem c50_19_s (hw : Cur w) : W3 Try.prog 55 V50 c50_19 Q e w = (opsW (nx Try.prog) mv gdP 55 V50 o50_6 (fun e w => W3 Try.prog 55 V50 c50_20 Q e w) o50_6.toList [] e e w) := by rw [(by kernel_rfl : c50_19 = .seq (.region 6 o50_6 false) c50_20), W3_seq_reg]
theorem c50_18_s (hw : Cur w) : W3 Try.prog 55 V50 c50_18 Q e w = (W3 Try.prog 55 V50 c50_19 (blockQ 3 Q) e w) := by rw [(by kernel_rfl : c50_18 = .block 3 c50_19), W3_block]
theorem c50_16_s (hw : Cur w) : W3 Try.prog 55 V50 c50_16 Q e w = (W3 Try.prog 55 V50 c50_18 (seqQ (fun e w => W3 Try.prog 55 V50 c50_17 Q e w) Q) e w) := by rw [(by kernel_rfl : c50_16 = .seq c50_18 c50_17), W3_seq]
theorem o50_4_eq : opsW N M G 55 V50 o50_4 k o50_4.toList [] e e w =
    (M (e 5) fun t7 =>
    M (e 0) fun t8 =>
    N (xnil t8) w fun t9 w =>
    N (xv (Instr.fieldAt 104 t9 0)) w fun t10 w =>
    N (xv (Instr.loadAt 102 t10)) w fun t11 w =>
    N (builtin Builtin.len #[102] 3 ([false]).toArray ([t11]).toArray) w fun t12 w =>
    N (xv (xbin BinOp.lss 3 (Operand.tmp 7) (Operand.tmp 12) t7 t12)) w fun t13 w =>
    k (Env.p e 13 t13) w) := nr (by kernel_rfl)
theorem c50_24_v : opV V50 (.tmp 13) = true := by kernel_rfl
theorem c50_24_s (hw : Cur w) : W3 Try.prog 55 V50 c50_24 Q e w = (condP (ev e (.tmp 13)) (Q .normal e w) (Q (.exit 2) e w)) := by rw [(by kernel_rfl : c50_24 = .cond (.tmp 13) Code.skip (Code.exit 2)), W3_cond, c50_24_v, cond_true]; simp only [W3_ret, W3_skip, W3_exit, W3_label]
theorem c50_23_s (hw : Cur w) : W3 Try.prog 55 V50 c50_23 Q e w = (opsW (nx Try.prog) mv gdP 55 V50 o50_4 (fun e w => W3 Try.prog 55 V50 c50_24 Q e w) o50_4.toList [] e e w) := by rw [(by kernel_rfl : c50_23 = .seq (.region 4 o50_4 false) c50_24), W3_seq_reg]
theorem c50_15_s (hw : Cur w) : W3 Try.prog 55 V50 c50_15 Q e w = (W3 Try.prog 55 V50 c50_23 (seqQ (fun e w => W3 Try.prog 55 V50 c50_16 Q e w) Q) e w) := by rw [(by kernel_rfl : c50_15 = .seq c50_23 c50_16), W3_seq]
theorem c50_14_s (hw : Cur w) : W3 Try.prog 55 V50 c50_14 Q e w = (LoopP (fun e w k => W3 Try.prog 55 V50 c50_15 (seqQ k Q) e w) e w) := by rw [(by kernel_rfl : c50_14 = .loop c50_15), W3_loop]
theorem c50_13_s (hw : Cur w) : W3 Try.prog 55 V50 c50_13 Q e w = (W3 Try.prog 55 V50 c50_14 (blockQ 2 Q) e w) := by rw [(by kernel_rfl : c50_13 = .block 2 c50_14), W3_block]
theorem c50_12_s (hw : Cur w) : W3 Try.prog 55 V50 c50_12 Q e w = (opsW (nx Try.prog) mv gdP 55 V50 o50_3 (fun e w => W3 Try.prog 55 V50 c50_13 Q e w) o50_3.toList [] e e w) := by rw [(by kernel_rfl : c50_12 = .seq (.region 3 o50_3 false) c50_13), W3_seq_reg]
theorem c50_6_s (hw : Cur w) : W3 Try.prog 55 V50 c50_6 Q e w = (W3 Try.prog 55 V50 c50_12 (seqQ (fun e w => W3 Try.prog 55 V50 c50_7 Q e w) Q) e w) := by rw [(by kernel_rfl : c50_6 = .seq c50_12 c50_7), W3_seq]
theorem c50_5_s (hw : Cur w) : W3 Try.prog 55 V50 c50_5 Q e w = (opsW (nx Try.prog) mv gdP 55 V50 o50_2 (fun e w => W3 Try.prog 55 V50 c50_6 Q e w) o50_2.toList [] e e w) := by rw [(by kernel_rfl : c50_5 = .seq (.region 2 o50_2 false) c50_6), W3_seq_reg]
theorem c50_4_s (hw : Cur w) : W3 Try.prog 55 V50 c50_4 Q e w = (W3 Try.prog 55 V50 c50_5 (blockQ 1 Q) e w) := by rw [(by kernel_rfl : c50_4 = .block 1 c50_5), W3_block]
theorem c50_3_s (hw : Cur w) : W3 Try.prog 55 V50 c50_3 Q e w = (LoopP (fun e w k => W3 Try.prog 55 V50 c50_4 (seqQ k Q) e w) e w) := by rw [(by kernel_rfl : c50_3 = .loop c50_4), W3_loop]
theorem c50_2_s (hw : Cur w) : W3 Try.prog 55 V50 c50_2 Q e w = (W3 Try.prog 55 V50 c50_3 (blockQ 0 Q) e w) := by rw [(by kernel_rfl : c50_2 = .block 0 c50_3), W3_block]
theorem c50_1_s (hw : Cur w) : W3 Try.prog 55 V50 c50_1 Q e w = (opsW (nx Try.prog) mv gdP 55 V50 o50_1 (fun e w => W3 Try.prog 55 V50 c50_2 Q e w) o50_1.toList [] e e w) := by rw [(by kernel_rfl : c50_1 = .seq (.region 1 o50_1 false) c50_2), W3_seq_reg]
theorem c50_s (hw : Cur w) : W3 Try.prog 55 V50 c50 Q e w = (opsW (nx Try.prog) mv gdP 55 V50 o50_0 (fun e w => W3 Try.prog 55 V50 c50_1 Q e w) o50_0.toList [] e e w) := by rw [(by kernel_rfl : c50 = .seq (.region 0 o50_0 false) c50_1), W3_seq_reg]
theorem call50 {a0 : Value} {w : World} {R : Value → World → Prop} (h : W3 Try.prog 55 V50 c50 (retQ Try.prog [.tmp 2] R) (argE [a0]) w) : CallsN Try.prog 50 [a0] w R :=
  callsN_of_W3 (c := c50) (rs := [.tmp 2]) V50 Try.ntmps50 (by rw [Try.results50]) mixed Try.func50 (by kernel_rfl) (by kernel_rfl) (by kernel_rfl) (by kernel_rfl) (by simp) h
noncomputable def hk50 := And.intro (@o50_0_eq) <| And.intro (@o50_1_eq) <| And.intro (@o50_2_eq) <| And.intro (@o50_11_eq) <| And.intro (@c50_8_s) <| And.intro (@o50_9_eq) <| And.intro (@o50_10_eq) <| And.intro (@c50_11_s) <| And.intro (@c50_10_s) <| And.intro (@c50_9_s) <| And.intro (@c50_7_s) <| And.intro (@o50_3_eq) <| And.intro (@o50_5_eq) <| And.intro (@c50_17_s) <| And.intro (@o50_6_eq) <| And.intro (@o50_7_eq) <| And.intro (@o50_8_eq) <| And.intro (@c50_22_s) <| And.intro (@c50_21_s) <| And.intro (@c50_20_s) <| And.intro (@c50_19_s) <| And.intro (@c50_18_s) <| And.intro (@c50_16_s) <| And.intro (@o50_4_eq) <| And.intro (@c50_24_s) <| And.intro (@c50_23_s) <| And.intro (@c50_15_s) <| And.intro (@c50_14_s) <| And.intro (@c50_13_s) <| And.intro (@c50_12_s) <| And.intro (@c50_6_s) <| And.intro (@c50_5_s) <| And.intro (@c50_4_s) <| And.intro (@c50_3_s) <| And.intro (@c50_2_s) <| And.intro (@c50_1_s) <| @c50_s
-- K50: ↓hk50
/-! ### vouch/vouchref05.Check -/
def V82 : Nat → Bool := fun i => [0, 2, 3, 4, 5, 13, 17, 35, 39, 44, 57].elem i
noncomputable def c82 : Code := (Try.f82.body.getD .skip)
noncomputable def o82_0 : Array Oper := rO (cL c82)
noncomputable def c82_1 : Code := (cR c82)
noncomputable def c82_2 : Code := (cR c82_1)
noncomputable def c82_3 : Code := (cR c82_2)
noncomputable def c82_4 : Code := (cR c82_3)
noncomputable def o82_16 : Array Oper := rO (cL c82_4)
noncomputable def c82_5 : Code := (cL c82_3)
noncomputable def o82_8 : Array Oper := rO (cL c82_5)
noncomputable def c82_6 : Code := (cR c82_5)
noncomputable def c82_7 : Code := (cL c82_6)
noncomputable def c82_8 : Code := (cL c82_7)
noncomputable def c82_9 : Code := (cR c82_8)
noncomputable def c82_10 : Code := (cR c82_9)
noncomputable def o82_10 : Array Oper := rO c82_10
noncomputable def c82_11 : Code := (cL c82_9)
noncomputable def c82_12 : Code := (cL c82_11)
noncomputable def o82_11 : Array Oper := rO (cL c82_12)
noncomputable def c82_13 : Code := (cR c82_12)
noncomputable def c82_14 : Code := (cL c82_13)
noncomputable def c82_15 : Code := (cL c82_14)
noncomputable def c82_16 : Code := (cR c82_15)
noncomputable def c82_17 : Code := (cR c82_16)
noncomputable def o82_13 : Array Oper := rO c82_17
noncomputable def c82_18 : Code := (cL c82_16)
noncomputable def c82_19 : Code := (cL c82_18)
noncomputable def o82_14 : Array Oper := rO (cL c82_19)
noncomputable def c82_20 : Code := (cR c82_19)
noncomputable def c82_21 : Code := (cL c82_20)
noncomputable def o82_15 : Array Oper := rO (cL c82_21)
noncomputable def c82_22 : Code := (cL c82_15)
noncomputable def o82_12 : Array Oper := rO (cL c82_22)
noncomputable def c82_23 : Code := (cR c82_22)
noncomputable def c82_24 : Code := (cL c82_8)
noncomputable def o82_9 : Array Oper := rO (cL c82_24)
noncomputable def c82_25 : Code := (cR c82_24)
noncomputable def c82_26 : Code := (cL c82_2)
noncomputable def o82_3 : Array Oper := rO (cL c82_26)
noncomputable def c82_27 : Code := (cR c82_26)
noncomputable def c82_28 : Code := (cL c82_27)
noncomputable def c82_29 : Code := (cL c82_28)
noncomputable def c82_30 : Code := (cR c82_29)
noncomputable def c82_31 : Code := (cR c82_30)
noncomputable def o82_5 : Array Oper := rO c82_31
noncomputable def c82_32 : Code := (cL c82_30)
noncomputable def c82_33 : Code := (cL c82_32)
noncomputable def o82_6 : Array Oper := rO (cL c82_33)
noncomputable def c82_34 : Code := (cR c82_33)
noncomputable def c82_35 : Code := (cL c82_34)
noncomputable def o82_7 : Array Oper := rO (cL c82_35)
noncomputable def c82_36 : Code := (cL c82_29)
noncomputable def o82_4 : Array Oper := rO (cL c82_36)
noncomputable def c82_37 : Code := (cR c82_36)
noncomputable def c82_38 : Code := (cL c82_1)
noncomputable def o82_1 : Array Oper := rO (cL c82_38)
noncomputable def c82_39 : Code := (cR c82_38)
noncomputable def c82_40 : Code := (cL c82_39)
noncomputable def o82_2 : Array Oper := rO (cL c82_40)
theorem o82_0_eq : opsW N M G 58 V82 o82_0 k o82_0.toList [] e e w =
    (M (Value.int IntKind.i64 0) fun t2 =>
    k (Env.p e 2 t2) w) := nr (by kernel_rfl)
theorem o82_16_eq : opsW N M G 58 V82 o82_16 k o82_16.toList [] e e w =
    (M (Value.int IntKind.i64 0) fun t2 =>
    k (Env.p e 2 t2) w) := nr (by kernel_rfl)
theorem c82_4_s (hw : Cur w) : W3 Try.prog 58 V82 c82_4 Q e w = (opsW (nx Try.prog) mv gdP 58 V82 o82_16 (fun e w => Q .ret e w) o82_16.toList [] e e w) := by rw [(by kernel_rfl : c82_4 = .seq (.region 16 o82_16 false) Code.ret), W3_seq_reg]; simp only [W3_ret, W3_skip, W3_exit, W3_label]
theorem o82_8_eq : opsW N M G 58 V82 o82_8 k o82_8.toList [] e e w =
    (M (Value.int IntKind.i64 0) fun t4 =>
    k (Env.p e 4 t4) w) := nr (by kernel_rfl)
theorem o82_10_eq : opsW N M G 58 V82 o82_10 k o82_10.toList [] e e w =
    (M (e 4) fun t40 =>
    N (xv (xbin BinOp.add 3 (Operand.tmp 40) (Operand.const (Value.int IntKind.i64 1)) t40 (Value.int IntKind.i64 1))) w fun t41 w =>
    M t41 fun t4 =>
    k (Env.p e 4 t4) w) := nr (by kernel_rfl)
theorem c82_10_s (hw : Cur w) : W3 Try.prog 58 V82 c82_10 Q e w = (opsW (nx Try.prog) mv gdP 58 V82 o82_10 (fun e w => Q .normal e w) o82_10.toList [] e e w) := by rw [(by kernel_rfl : c82_10 = (.region 10 o82_10 false)), W3_reg]
theorem o82_11_eq : opsW N M G 58 V82 o82_11 k o82_11.toList [] e e w =
    (M (Value.int IntKind.i64 0) fun t5 =>
    k (Env.p e 5 t5) w) := nr (by kernel_rfl)
theorem o82_13_eq : opsW N M G 58 V82 o82_13 k o82_13.toList [] e e w =
    (M (e 5) fun t45 =>
    N (xv (xbin BinOp.add 3 (Operand.tmp 45) (Operand.const (Value.int IntKind.i64 1)) t45 (Value.int IntKind.i64 1))) w fun t46 w =>
    M t46 fun t5 =>
    k (Env.p e 5 t5) w) := nr (by kernel_rfl)
theorem c82_17_s (hw : Cur w) : W3 Try.prog 58 V82 c82_17 Q e w = (opsW (nx Try.prog) mv gdP 58 V82 o82_13 (fun e w => Q .normal e w) o82_13.toList [] e e w) := by rw [(by kernel_rfl : c82_17 = (.region 13 o82_13 false)), W3_reg]
theorem o82_14_eq : drawGo3 N T3 M G H 58 V82 o82_14 (puK o82_14) k o82_14.size [] (Array.replicate o82_14.size false) [] e e w =
    (M (e 0) fun t47 =>
    M (e 5) fun t48 =>
    T3 (FrX none w) (xv (Instr.indexAt 40 t47 t48)) fun t49 =>
    T3 (FrX none w) (xv (Instr.fieldAt 44 t49 0)) fun t50 =>
    T3 (FrX (some []) w) (xv (Instr.loadAt 9 t50)) fun t51 =>
    M (e 0) fun t52 =>
    M (e 4) fun t53 =>
    T3 (FrX none w) (xv (Instr.indexAt 40 t52 t53)) fun t54 =>
    T3 (FrX none w) (xv (Instr.fieldAt 44 t54 0)) fun t55 =>
    T3 (FrX (some []) w) (xv (Instr.loadAt 9 t55)) fun t56 =>
    T3 (FrX none w) (xv (xbin BinOp.eql 9 (Operand.tmp 51) (Operand.tmp 56) t51 t56)) fun t57 =>
    (k (Env.p e 57 t57)) w) := nr (by kernel_rfl)
theorem o82_15_eq : opsW N M G 58 V82 o82_15 k o82_15.toList [] e e w =
    (M (Value.int IntKind.i64 22) fun t2 =>
    k (Env.p e 2 t2) w) := nr (by kernel_rfl)
theorem c82_21_s (hw : Cur w) : W3 Try.prog 58 V82 c82_21 Q e w = (opsW (nx Try.prog) mv gdP 58 V82 o82_15 (fun e w => Q .ret e w) o82_15.toList [] e e w) := by rw [(by kernel_rfl : c82_21 = .seq (.region 15 o82_15 false) Code.ret), W3_seq_reg]; simp only [W3_ret, W3_skip, W3_exit, W3_label]
theorem c82_20_v : opV V82 (.tmp 57) = true := by kernel_rfl
theorem c82_20_s (hw : Cur w) : W3 Try.prog 58 V82 c82_20 Q e w = (condP (ev e (.tmp 57)) (W3 Try.prog 58 V82 c82_21 Q e w) (Q .normal e w)) := by rw [(by kernel_rfl : c82_20 = .cond (.tmp 57) c82_21 Code.skip), W3_cond, c82_20_v, cond_true]; simp only [W3_ret, W3_skip, W3_exit, W3_label]
theorem c82_19_s (hw : Cur w) : W3 Try.prog 58 V82 c82_19 Q e w = (drawGo3 (nx Try.prog) (takeP Try.prog) mv gdP gdT 58 V82 o82_14 (puK o82_14) (fun e w => W3 Try.prog 58 V82 c82_20 Q e w) o82_14.size [] (Array.replicate o82_14.size false) [] e e w.drew) := by rw [(by kernel_rfl : c82_19 = .seq (.region 14 o82_14 true) c82_20), W3_seq_regD]
theorem c82_18_s (hw : Cur w) : W3 Try.prog 58 V82 c82_18 Q e w = (W3 Try.prog 58 V82 c82_19 (blockQ 5 Q) e w) := by rw [(by kernel_rfl : c82_18 = .block 5 c82_19), W3_block]
theorem c82_16_s (hw : Cur w) : W3 Try.prog 58 V82 c82_16 Q e w = (W3 Try.prog 58 V82 c82_18 (seqQ (fun e w => W3 Try.prog 58 V82 c82_17 Q e w) Q) e w) := by rw [(by kernel_rfl : c82_16 = .seq c82_18 c82_17), W3_seq]
theorem o82_12_eq : opsW N M G 58 V82 o82_12 k o82_12.toList [] e e w =
    (M (e 5) fun t42 =>
    M (e 4) fun t43 =>
    N (xv (xbin BinOp.lss 3 (Operand.tmp 42) (Operand.tmp 43) t42 t43)) w fun t44 w =>
    k (Env.p e 44 t44) w) := nr (by kernel_rfl)
theorem c82_23_v : opV V82 (.tmp 44) = true := by kernel_rfl
theorem c82_23_s (hw : Cur w) : W3 Try.prog 58 V82 c82_23 Q e w = (condP (ev e (.tmp 44)) (Q .normal e w) (Q (.exit 4) e w)) := by rw [(by kernel_rfl : c82_23 = .cond (.tmp 44) Code.skip (Code.exit 4)), W3_cond, c82_23_v, cond_true]; simp only [W3_ret, W3_skip, W3_exit, W3_label]
theorem c82_22_s (hw : Cur w) : W3 Try.prog 58 V82 c82_22 Q e w = (opsW (nx Try.prog) mv gdP 58 V82 o82_12 (fun e w => W3 Try.prog 58 V82 c82_23 Q e w) o82_12.toList [] e e w) := by rw [(by kernel_rfl : c82_22 = .seq (.region 12 o82_12 false) c82_23), W3_seq_reg]
theorem c82_15_s (hw : Cur w) : W3 Try.prog 58 V82 c82_15 Q e w = (W3 Try.prog 58 V82 c82_22 (seqQ (fun e w => W3 Try.prog 58 V82 c82_16 Q e w) Q) e w) := by rw [(by kernel_rfl : c82_15 = .seq c82_22 c82_16), W3_seq]
theorem c82_14_s (hw : Cur w) : W3 Try.prog 58 V82 c82_14 Q e w = (LoopP (fun e w k => W3 Try.prog 58 V82 c82_15 (seqQ k Q) e w) e w) := by rw [(by kernel_rfl : c82_14 = .loop c82_15), W3_loop]
theorem c82_13_s (hw : Cur w) : W3 Try.prog 58 V82 c82_13 Q e w = (W3 Try.prog 58 V82 c82_14 (blockQ 4 Q) e w) := by rw [(by kernel_rfl : c82_13 = .block 4 c82_14), W3_block]
theorem c82_12_s (hw : Cur w) : W3 Try.prog 58 V82 c82_12 Q e w = (opsW (nx Try.prog) mv gdP 58 V82 o82_11 (fun e w => W3 Try.prog 58 V82 c82_13 Q e w) o82_11.toList [] e e w) := by rw [(by kernel_rfl : c82_12 = .seq (.region 11 o82_11 false) c82_13), W3_seq_reg]
theorem c82_11_s (hw : Cur w) : W3 Try.prog 58 V82 c82_11 Q e w = (W3 Try.prog 58 V82 c82_12 (blockQ 3 Q) e w) := by rw [(by kernel_rfl : c82_11 = .block 3 c82_12), W3_block]
theorem c82_9_s (hw : Cur w) : W3 Try.prog 58 V82 c82_9 Q e w = (W3 Try.prog 58 V82 c82_11 (seqQ (fun e w => W3 Try.prog 58 V82 c82_10 Q e w) Q) e w) := by rw [(by kernel_rfl : c82_9 = .seq c82_11 c82_10), W3_seq]
theorem o82_9_eq : opsW N M G 58 V82 o82_9 k o82_9.toList [] e e w =
    (M (e 4) fun t36 =>
    M (e 0) fun t37 =>
    N (builtin Builtin.len #[40] 3 ([false]).toArray ([t37]).toArray) w fun t38 w =>
    N (xv (xbin BinOp.lss 3 (Operand.tmp 36) (Operand.tmp 38) t36 t38)) w fun t39 w =>
    k (Env.p e 39 t39) w) := nr (by kernel_rfl)
theorem c82_25_v : opV V82 (.tmp 39) = true := by kernel_rfl
theorem c82_25_s (hw : Cur w) : W3 Try.prog 58 V82 c82_25 Q e w = (condP (ev e (.tmp 39)) (Q .normal e w) (Q (.exit 2) e w)) := by rw [(by kernel_rfl : c82_25 = .cond (.tmp 39) Code.skip (Code.exit 2)), W3_cond, c82_25_v, cond_true]; simp only [W3_ret, W3_skip, W3_exit, W3_label]
theorem c82_24_s (hw : Cur w) : W3 Try.prog 58 V82 c82_24 Q e w = (opsW (nx Try.prog) mv gdP 58 V82 o82_9 (fun e w => W3 Try.prog 58 V82 c82_25 Q e w) o82_9.toList [] e e w) := by rw [(by kernel_rfl : c82_24 = .seq (.region 9 o82_9 false) c82_25), W3_seq_reg]
theorem c82_8_s (hw : Cur w) : W3 Try.prog 58 V82 c82_8 Q e w = (W3 Try.prog 58 V82 c82_24 (seqQ (fun e w => W3 Try.prog 58 V82 c82_9 Q e w) Q) e w) := by rw [(by kernel_rfl : c82_8 = .seq c82_24 c82_9), W3_seq]
theorem c82_7_s (hw : Cur w) : W3 Try.prog 58 V82 c82_7 Q e w = (LoopP (fun e w k => W3 Try.prog 58 V82 c82_8 (seqQ k Q) e w) e w) := by rw [(by kernel_rfl : c82_7 = .loop c82_8), W3_loop]
theorem c82_6_s (hw : Cur w) : W3 Try.prog 58 V82 c82_6 Q e w = (W3 Try.prog 58 V82 c82_7 (blockQ 2 Q) e w) := by rw [(by kernel_rfl : c82_6 = .block 2 c82_7), W3_block]
theorem c82_5_s (hw : Cur w) : W3 Try.prog 58 V82 c82_5 Q e w = (opsW (nx Try.prog) mv gdP 58 V82 o82_8 (fun e w => W3 Try.prog 58 V82 c82_6 Q e w) o82_8.toList [] e e w) := by rw [(by kernel_rfl : c82_5 = .seq (.region 8 o82_8 false) c82_6), W3_seq_reg]
theorem c82_3_s (hw : Cur w) : W3 Try.prog 58 V82 c82_3 Q e w = (W3 Try.prog 58 V82 c82_5 (seqQ (fun e w => W3 Try.prog 58 V82 c82_4 Q e w) Q) e w) := by rw [(by kernel_rfl : c82_3 = .seq c82_5 c82_4), W3_seq]
theorem o82_3_eq : opsW N M G 58 V82 o82_3 k o82_3.toList [] e e w =
    (M (Value.int IntKind.i64 0) fun t3 =>
    k (Env.p e 3 t3) w) := nr (by kernel_rfl)
theorem o82_5_eq : opsW N M G 58 V82 o82_5 k o82_5.toList [] e e w =
    (M (e 3) fun t18 =>
    N (xv (xbin BinOp.add 3 (Operand.tmp 18) (Operand.const (Value.int IntKind.i64 1)) t18 (Value.int IntKind.i64 1))) w fun t19 w =>
    M t19 fun t3 =>
    k (Env.p e 3 t3) w) := nr (by kernel_rfl)
theorem c82_31_s (hw : Cur w) : W3 Try.prog 58 V82 c82_31 Q e w = (opsW (nx Try.prog) mv gdP 58 V82 o82_5 (fun e w => Q .normal e w) o82_5.toList [] e e w) := by rw [(by kernel_rfl : c82_31 = (.region 5 o82_5 false)), W3_reg]
theorem o82_6_eq : opsW N M G 58 V82 o82_6 k o82_6.toList [] e e w =
    (M (e 0) fun t20 =>
    M (e 3) fun t21 =>
    N (xv (Instr.indexAt 40 t20 t21)) w fun t22 w =>
    N (xv (Instr.fieldAt 44 t22 0)) w fun t23 w =>
    N (xv (Instr.loadAt 9 t23)) w fun t24 w =>
    N (xcall (Value.func (Fn.func 94) #[] #[]) [t24]) w fun t25 w =>
    N (xv (Op.unary UnOp.not t25)) w fun t26 w =>
    M t26 fun t27 =>
    G (isB t27 false) (fun K => M (e 0) fun v => K v w) (fun t28 w =>
    G (isB t27 false) (fun K => M (e 3) fun v => K v w) (fun t29 w =>
    G (isB t27 false) (fun K => N (xv (Instr.indexAt 40 t28 t29)) w K) (fun t30 w =>
    G (isB t27 false) (fun K => N (xv (Instr.fieldAt 44 t30 1)) w K) (fun t31 w =>
    G (isB t27 false) (fun K => N (xv (Instr.loadAt 29 t31)) w K) (fun t32 w =>
    G (isB t27 false) (fun K => N (xcall (Value.func (Fn.func 100) #[] #[]) [t32]) w K) (fun t33 w =>
    G (isB t27 false) (fun K => N (xv (Op.unary UnOp.not t33)) w K) (fun t34 w =>
    N (xpick t27 (Value.bool true) t34) w fun t35 w =>
    k (Env.p e 35 t35) w) w) w) w) w) w) w) w) := nr (by kernel_rfl)
theorem o82_7_eq : opsW N M G 58 V82 o82_7 k o82_7.toList [] e e w =
    (M (Value.int IntKind.i64 1) fun t2 =>
    k (Env.p e 2 t2) w) := nr (by kernel_rfl)
theorem c82_35_s (hw : Cur w) : W3 Try.prog 58 V82 c82_35 Q e w = (opsW (nx Try.prog) mv gdP 58 V82 o82_7 (fun e w => Q .ret e w) o82_7.toList [] e e w) := by rw [(by kernel_rfl : c82_35 = .seq (.region 7 o82_7 false) Code.ret), W3_seq_reg]; simp only [W3_ret, W3_skip, W3_exit, W3_label]
theorem c82_34_v : opV V82 (.tmp 35) = true := by kernel_rfl
theorem c82_34_s (hw : Cur w) : W3 Try.prog 58 V82 c82_34 Q e w = (condP (ev e (.tmp 35)) (W3 Try.prog 58 V82 c82_35 Q e w) (Q .normal e w)) := by rw [(by kernel_rfl : c82_34 = .cond (.tmp 35) c82_35 Code.skip), W3_cond, c82_34_v, cond_true]; simp only [W3_ret, W3_skip, W3_exit, W3_label]
theorem c82_33_s (hw : Cur w) : W3 Try.prog 58 V82 c82_33 Q e w = (opsW (nx Try.prog) mv gdP 58 V82 o82_6 (fun e w => W3 Try.prog 58 V82 c82_34 Q e w) o82_6.toList [] e e w) := by rw [(by kernel_rfl : c82_33 = .seq (.region 6 o82_6 false) c82_34), W3_seq_reg]
theorem c82_32_s (hw : Cur w) : W3 Try.prog 58 V82 c82_32 Q e w = (W3 Try.prog 58 V82 c82_33 (blockQ 1 Q) e w) := by rw [(by kernel_rfl : c82_32 = .block 1 c82_33), W3_block]
theorem c82_30_s (hw : Cur w) : W3 Try.prog 58 V82 c82_30 Q e w = (W3 Try.prog 58 V82 c82_32 (seqQ (fun e w => W3 Try.prog 58 V82 c82_31 Q e w) Q) e w) := by rw [(by kernel_rfl : c82_30 = .seq c82_32 c82_31), W3_seq]
theorem o82_4_eq : opsW N M G 58 V82 o82_4 k o82_4.toList [] e e w =
    (M (e 3) fun t14 =>
    M (e 0) fun t15 =>
    N (builtin Builtin.len #[40] 3 ([false]).toArray ([t15]).toArray) w fun t16 w =>
    N (xv (xbin BinOp.lss 3 (Operand.tmp 14) (Operand.tmp 16) t14 t16)) w fun t17 w =>
    k (Env.p e 17 t17) w) := nr (by kernel_rfl)
theorem c82_37_v : opV V82 (.tmp 17) = true := by kernel_rfl
theorem c82_37_s (hw : Cur w) : W3 Try.prog 58 V82 c82_37 Q e w = (condP (ev e (.tmp 17)) (Q .normal e w) (Q (.exit 0) e w)) := by rw [(by kernel_rfl : c82_37 = .cond (.tmp 17) Code.skip (Code.exit 0)), W3_cond, c82_37_v, cond_true]; simp only [W3_ret, W3_skip, W3_exit, W3_label]
theorem c82_36_s (hw : Cur w) : W3 Try.prog 58 V82 c82_36 Q e w = (opsW (nx Try.prog) mv gdP 58 V82 o82_4 (fun e w => W3 Try.prog 58 V82 c82_37 Q e w) o82_4.toList [] e e w) := by rw [(by kernel_rfl : c82_36 = .seq (.region 4 o82_4 false) c82_37), W3_seq_reg]
theorem c82_29_s (hw : Cur w) : W3 Try.prog 58 V82 c82_29 Q e w = (W3 Try.prog 58 V82 c82_36 (seqQ (fun e w => W3 Try.prog 58 V82 c82_30 Q e w) Q) e w) := by rw [(by kernel_rfl : c82_29 = .seq c82_36 c82_30), W3_seq]
theorem c82_28_s (hw : Cur w) : W3 Try.prog 58 V82 c82_28 Q e w = (LoopP (fun e w k => W3 Try.prog 58 V82 c82_29 (seqQ k Q) e w) e w) := by rw [(by kernel_rfl : c82_28 = .loop c82_29), W3_loop]
theorem c82_27_s (hw : Cur w) : W3 Try.prog 58 V82 c82_27 Q e w = (W3 Try.prog 58 V82 c82_28 (blockQ 0 Q) e w) := by rw [(by kernel_rfl : c82_27 = .block 0 c82_28), W3_block]
theorem c82_26_s (hw : Cur w) : W3 Try.prog 58 V82 c82_26 Q e w = (opsW (nx Try.prog) mv gdP 58 V82 o82_3 (fun e w => W3 Try.prog 58 V82 c82_27 Q e w) o82_3.toList [] e e w) := by rw [(by kernel_rfl : c82_26 = .seq (.region 3 o82_3 false) c82_27), W3_seq_reg]
theorem c82_2_s (hw : Cur w) : W3 Try.prog 58 V82 c82_2 Q e w = (W3 Try.prog 58 V82 c82_26 (seqQ (fun e w => W3 Try.prog 58 V82 c82_3 Q e w) Q) e w) := by rw [(by kernel_rfl : c82_2 = .seq c82_26 c82_3), W3_seq]
theorem o82_1_eq : opsW N M G 58 V82 o82_1 k o82_1.toList [] e e w =
    (M (e 0) fun t6 =>
    N (builtin Builtin.len #[40] 3 ([false]).toArray ([t6]).toArray) w fun t7 w =>
    N (xv (xbin BinOp.lss 3 (Operand.tmp 7) (Operand.const (Value.int IntKind.i64 1)) t7 (Value.int IntKind.i64 1))) w fun t8 w =>
    M t8 fun t9 =>
    G (isB t9 false) (fun K => M (e 0) fun v => K v w) (fun t10 w =>
    G (isB t9 false) (fun K => N (builtin Builtin.len #[40] 3 ([false]).toArray ([t10]).toArray) w K) (fun t11 w =>
    G (isB t9 false) (fun K => N (xv (xbin BinOp.gtr 3 (Operand.tmp 11) (Operand.const (Value.int IntKind.i64 8)) t11 (Value.int IntKind.i64 8))) w K) (fun t12 w =>
    N (xpick t9 (Value.bool true) t12) w fun t13 w =>
    k (Env.p e 13 t13) w) w) w) w) := nr (by kernel_rfl)
theorem o82_2_eq : opsW N M G 58 V82 o82_2 k o82_2.toList [] e e w =
    (M (Value.int IntKind.i64 1) fun t2 =>
    k (Env.p e 2 t2) w) := nr (by kernel_rfl)
theorem c82_40_s (hw : Cur w) : W3 Try.prog 58 V82 c82_40 Q e w = (opsW (nx Try.prog) mv gdP 58 V82 o82_2 (fun e w => Q .ret e w) o82_2.toList [] e e w) := by rw [(by kernel_rfl : c82_40 = .seq (.region 2 o82_2 false) Code.ret), W3_seq_reg]; simp only [W3_ret, W3_skip, W3_exit, W3_label]
theorem c82_39_v : opV V82 (.tmp 13) = true := by kernel_rfl
theorem c82_39_s (hw : Cur w) : W3 Try.prog 58 V82 c82_39 Q e w = (condP (ev e (.tmp 13)) (W3 Try.prog 58 V82 c82_40 Q e w) (Q .normal e w)) := by rw [(by kernel_rfl : c82_39 = .cond (.tmp 13) c82_40 Code.skip), W3_cond, c82_39_v, cond_true]; simp only [W3_ret, W3_skip, W3_exit, W3_label]
theorem c82_38_s (hw : Cur w) : W3 Try.prog 58 V82 c82_38 Q e w = (opsW (nx Try.prog) mv gdP 58 V82 o82_1 (fun e w => W3 Try.prog 58 V82 c82_39 Q e w) o82_1.toList [] e e w) := by rw [(by kernel_rfl : c82_38 = .seq (.region 1 o82_1 false) c82_39), W3_seq_reg]
theorem c82_1_s (hw : Cur w) : W3 Try.prog 58 V82 c82_1 Q e w = (W3 Try.prog 58 V82 c82_38 (seqQ (fun e w => W3 Try.prog 58 V82 c82_2 Q e w) Q) e w) := by rw [(by kernel_rfl : c82_1 = .seq c82_38 c82_2), W3_seq]
theorem c82_s (hw : Cur w) : W3 Try.prog 58 V82 c82 Q e w = (opsW (nx Try.prog) mv gdP 58 V82 o82_0 (fun e w => W3 Try.prog 58 V82 c82_1 Q e w) o82_0.toList [] e e w) := by rw [(by kernel_rfl : c82 = .seq (.region 0 o82_0 false) c82_1), W3_seq_reg]
theorem call82 {a0 : Value} {w : World} {R : Value → World → Prop} (h : W3 Try.prog 58 V82 c82 (retQ Try.prog [.tmp 2] R) (argE [a0]) w) : CallsN Try.prog 82 [a0] w R :=
  callsN_of_W3 (c := c82) (rs := [.tmp 2]) V82 Try.ntmps82 (by rw [Try.results82]) mixed Try.func82 (by kernel_rfl) (by kernel_rfl) (by kernel_rfl) (by kernel_rfl) (by simp) h
noncomputable def hk82 := And.intro (@o82_0_eq) <| And.intro (@o82_16_eq) <| And.intro (@c82_4_s) <| And.intro (@o82_8_eq) <| And.intro (@o82_10_eq) <| And.intro (@c82_10_s) <| And.intro (@o82_11_eq) <| And.intro (@o82_13_eq) <| And.intro (@c82_17_s) <| And.intro (@o82_14_eq) <| And.intro (@o82_15_eq) <| And.intro (@c82_21_s) <| And.intro (@c82_20_s) <| And.intro (@c82_19_s) <| And.intro (@c82_18_s) <| And.intro (@c82_16_s) <| And.intro (@o82_12_eq) <| And.intro (@c82_23_s) <| And.intro (@c82_22_s) <| And.intro (@c82_15_s) <| And.intro (@c82_14_s) <| And.intro (@c82_13_s) <| And.intro (@c82_12_s) <| And.intro (@c82_11_s) <| And.intro (@c82_9_s) <| And.intro (@o82_9_eq) <| And.intro (@c82_25_s) <| And.intro (@c82_24_s) <| And.intro (@c82_8_s) <| And.intro (@c82_7_s) <| And.intro (@c82_6_s) <| And.intro (@c82_5_s) <| And.intro (@c82_3_s) <| And.intro (@o82_3_eq) <| And.intro (@o82_5_eq) <| And.intro (@c82_31_s) <| And.intro (@o82_6_eq) <| And.intro (@o82_7_eq) <| And.intro (@c82_35_s) <| And.intro (@c82_34_s) <| And.intro (@c82_33_s) <| And.intro (@c82_32_s) <| And.intro (@c82_30_s) <| And.intro (@o82_4_eq) <| And.intro (@c82_37_s) <| And.intro (@c82_36_s) <| And.intro (@c82_29_s) <| And.intro (@c82_28_s) <| And.intro (@c82_27_s) <| And.intro (@c82_26_s) <| And.intro (@c82_2_s) <| And.intro (@o82_1_eq) <| And.intro (@o82_2_eq) <| And.intro (@c82_40_s) <| And.intro (@c82_39_s) <| And.intro (@c82_38_s) <| And.intro (@c82_1_s) <| @c82_s
-- K82: ↓hk82
/-! ### (*vouch/vouchref05.Store) . Truth -/
def V95 : Nat → Bool := fun i => [0, 1, 2, 6, 7, 8, 9, 10, 19, 28, 45, 54].elem i
noncomputable def c95 : Code := (Try.f95.body.getD .skip)
noncomputable def o95_0 : Array Oper := rO (cL c95)
noncomputable def c95_1 : Code := (cR c95)
noncomputable def o95_1 : Array Oper := rO (cL c95_1)
noncomputable def c95_2 : Code := (cR c95_1)
noncomputable def o95_2 : Array Oper := rO (cL c95_2)
noncomputable def c95_3 : Code := (cR c95_2)
noncomputable def c95_4 : Code := (cR c95_3)
noncomputable def c95_5 : Code := (cR c95_4)
noncomputable def o95_14 : Array Oper := rO (cL c95_5)
noncomputable def c95_6 : Code := (cL c95_4)
noncomputable def o95_9 : Array Oper := rO (cL c95_6)
noncomputable def c95_7 : Code := (cR c95_6)
noncomputable def c95_8 : Code := (cL c95_7)
noncomputable def c95_9 : Code := (cL c95_8)
noncomputable def c95_10 : Code := (cR c95_9)
noncomputable def c95_11 : Code := (cR c95_10)
noncomputable def o95_11 : Array Oper := rO c95_11
noncomputable def c95_12 : Code := (cL c95_10)
noncomputable def c95_13 : Code := (cL c95_12)
noncomputable def o95_12 : Array Oper := rO (cL c95_13)
noncomputable def c95_14 : Code := (cR c95_13)
noncomputable def c95_15 : Code := (cL c95_14)
noncomputable def o95_13 : Array Oper := rO c95_15
noncomputable def c95_16 : Code := (cL c95_9)
noncomputable def o95_10 : Array Oper := rO (cL c95_16)
noncomputable def c95_17 : Code := (cR c95_16)
noncomputable def c95_18 : Code := (cL c95_3)
noncomputable def o95_3 : Array Oper := rO (cL c95_18)
noncomputable def c95_19 : Code := (cR c95_18)
noncomputable def c95_20 : Code := (cL c95_19)
noncomputable def c95_21 : Code := (cL c95_20)
noncomputable def c95_22 : Code := (cR c95_21)
noncomputable def c95_23 : Code := (cR c95_22)
noncomputable def o95_5 : Array Oper := rO c95_23
noncomputable def c95_24 : Code := (cL c95_22)
noncomputable def c95_25 : Code := (cL c95_24)
noncomputable def o95_6 : Array Oper := rO (cL c95_25)
noncomputable def c95_26 : Code := (cR c95_25)
noncomputable def c95_27 : Code := (cL c95_26)
noncomputable def o95_7 : Array Oper := rO (cL c95_27)
noncomputable def c95_28 : Code := (cR c95_27)
noncomputable def o95_8 : Array Oper := rO c95_28
noncomputable def c95_29 : Code := (cL c95_21)
noncomputable def o95_4 : Array Oper := rO (cL c95_29)
noncomputable def c95_30 : Code := (cR c95_29)
theorem o95_0_eq : opsW N M G 62 V95 o95_0 k o95_0.toList [] e e w =
    (N (xv (Instr.alloc 31 true (.tuple #[]))) w fun t6 w =>
    k (Env.p e 6 t6) w) := nr (by kernel_rfl)
theorem o95_1_eq : opsW N M G 62 V95 o95_1 k o95_1.toList [] e e w =
    (M (e 1) fun t11 =>
    N (xv (Instr.build 31 ([(0, t11), (3, (Value.int IntKind.i64 4611686018427387904))]).toArray)) w fun t12 w =>
    N (xv (Instr.alloc 31 true (.tuple #[]))) w fun t7 w =>
    N (xu (Instr.storeAt 31 t7 t12)) w fun _ w =>
    k (Env.p e 7 t7) w) := nr (by kernel_rfl)
theorem o95_2_eq : opsW N M G 62 V95 o95_2 k o95_2.toList [] e e w =
    (M (e 0) fun t13 =>
    M (e 1) fun t14 =>
    N (xcall (Value.func (Fn.func 96) #[] #[]) [t13, t14]) w fun t15 w =>
    M t15 fun t8 =>
    k (Env.p e 8 t8) w) := nr (by kernel_rfl)
theorem o95_14_eq : opsW N M G 62 V95 o95_14 k o95_14.toList [] e e w =
    (N (xv (Instr.loadAt 31 (e 7))) w fun t61 w =>
    N (xu (Instr.storeAt 31 (e 6) t61)) w fun _ w =>
    k e w) := nr (by kernel_rfl)
theorem c95_5_s (hw : Cur w) : W3 Try.prog 62 V95 c95_5 Q e w = (opsW (nx Try.prog) mv gdP 62 V95 o95_14 (fun e w => Q .ret e w) o95_14.toList [] e e w) := by rw [(by kernel_rfl : c95_5 = .seq (.region 14 o95_14 false) Code.ret), W3_seq_reg]; simp only [W3_ret, W3_skip, W3_exit, W3_label]
theorem o95_9_eq : opsW N M G 62 V95 o95_9 k o95_9.toList [] e e w =
    (M (e 8) fun t41 =>
    N (builtin Builtin.len #[46] 3 ([false]).toArray ([t41]).toArray) w fun t42 w =>
    N (xv (xbin BinOp.sub 3 (Operand.tmp 42) (Operand.const (Value.int IntKind.i64 1)) t42 (Value.int IntKind.i64 1))) w fun t43 w =>
    M t43 fun t10 =>
    k (Env.p e 10 t10) w) := nr (by kernel_rfl)
theorem o95_11_eq : opsW N M G 62 V95 o95_11 k o95_11.toList [] e e w =
    (M (e 10) fun t46 =>
    N (xv (xbin BinOp.sub 3 (Operand.tmp 46) (Operand.const (Value.int IntKind.i64 1)) t46 (Value.int IntKind.i64 1))) w fun t47 w =>
    M t47 fun t10 =>
    k (Env.p e 10 t10) w) := nr (by kernel_rfl)
theorem c95_11_s (hw : Cur w) : W3 Try.prog 62 V95 c95_11 Q e w = (opsW (nx Try.prog) mv gdP 62 V95 o95_11 (fun e w => Q .normal e w) o95_11.toList [] e e w) := by rw [(by kernel_rfl : c95_11 = (.region 11 o95_11 false)), W3_reg]
theorem o95_12_eq : opsW N M G 62 V95 o95_12 k o95_12.toList [] e e w =
    (M (e 8) fun t48 =>
    M (e 10) fun t49 =>
    N (xv (Instr.indexAt 46 t48 t49)) w fun t50 w =>
    N (xv (Instr.fieldAt 106 t50 0)) w fun t51 w =>
    N (xv (Instr.loadAt 2 t51)) w fun t52 w =>
    M (e 2) fun t53 =>
    N (xv (xbin BinOp.gtr 2 (Operand.tmp 52) (Operand.tmp 53) t52 t53)) w fun t54 w =>
    k (Env.p e 54 t54) w) := nr (by kernel_rfl)
theorem o95_13_eq : opsW N M G 62 V95 o95_13 k o95_13.toList [] e e w =
    (M (e 8) fun t55 =>
    M (e 10) fun t56 =>
    N (xv (Instr.indexAt 46 t55 t56)) w fun t57 w =>
    N (xv (Instr.fieldAt 106 t57 0)) w fun t58 w =>
    N (xv (Instr.loadAt 2 t58)) w fun t59 w =>
    N (xv (Instr.fieldAt 31 (e 7) 3)) w fun t60 w =>
    N (xu (Instr.storeAt 2 t60 t59)) w fun _ w =>
    k e w) := nr (by kernel_rfl)
theorem c95_15_s (hw : Cur w) : W3 Try.prog 62 V95 c95_15 Q e w = (opsW (nx Try.prog) mv gdP 62 V95 o95_13 (fun e w => Q .normal e w) o95_13.toList [] e e w) := by rw [(by kernel_rfl : c95_15 = (.region 13 o95_13 false)), W3_reg]
theorem c95_14_v : opV V95 (.tmp 54) = true := by kernel_rfl
theorem c95_14_s (hw : Cur w) : W3 Try.prog 62 V95 c95_14 Q e w = (condP (ev e (.tmp 54)) (W3 Try.prog 62 V95 c95_15 Q e w) (Q .normal e w)) := by rw [(by kernel_rfl : c95_14 = .cond (.tmp 54) c95_15 Code.skip), W3_cond, c95_14_v, cond_true]; simp only [W3_ret, W3_skip, W3_exit, W3_label]
theorem c95_13_s (hw : Cur w) : W3 Try.prog 62 V95 c95_13 Q e w = (opsW (nx Try.prog) mv gdP 62 V95 o95_12 (fun e w => W3 Try.prog 62 V95 c95_14 Q e w) o95_12.toList [] e e w) := by rw [(by kernel_rfl : c95_13 = .seq (.region 12 o95_12 false) c95_14), W3_seq_reg]
theorem c95_12_s (hw : Cur w) : W3 Try.prog 62 V95 c95_12 Q e w = (W3 Try.prog 62 V95 c95_13 (blockQ 3 Q) e w) := by rw [(by kernel_rfl : c95_12 = .block 3 c95_13), W3_block]
theorem c95_10_s (hw : Cur w) : W3 Try.prog 62 V95 c95_10 Q e w = (W3 Try.prog 62 V95 c95_12 (seqQ (fun e w => W3 Try.prog 62 V95 c95_11 Q e w) Q) e w) := by rw [(by kernel_rfl : c95_10 = .seq c95_12 c95_11), W3_seq]
theorem o95_10_eq : opsW N M G 62 V95 o95_10 k o95_10.toList [] e e w =
    (M (e 10) fun t44 =>
    N (xv (xbin BinOp.geq 3 (Operand.tmp 44) (Operand.const (Value.int IntKind.i64 0)) t44 (Value.int IntKind.i64 0))) w fun t45 w =>
    k (Env.p e 45 t45) w) := nr (by kernel_rfl)
theorem c95_17_v : opV V95 (.tmp 45) = true := by kernel_rfl
theorem c95_17_s (hw : Cur w) : W3 Try.prog 62 V95 c95_17 Q e w = (condP (ev e (.tmp 45)) (Q .normal e w) (Q (.exit 2) e w)) := by rw [(by kernel_rfl : c95_17 = .cond (.tmp 45) Code.skip (Code.exit 2)), W3_cond, c95_17_v, cond_true]; simp only [W3_ret, W3_skip, W3_exit, W3_label]
theorem c95_16_s (hw : Cur w) : W3 Try.prog 62 V95 c95_16 Q e w = (opsW (nx Try.prog) mv gdP 62 V95 o95_10 (fun e w => W3 Try.prog 62 V95 c95_17 Q e w) o95_10.toList [] e e w) := by rw [(by kernel_rfl : c95_16 = .seq (.region 10 o95_10 false) c95_17), W3_seq_reg]
theorem c95_9_s (hw : Cur w) : W3 Try.prog 62 V95 c95_9 Q e w = (W3 Try.prog 62 V95 c95_16 (seqQ (fun e w => W3 Try.prog 62 V95 c95_10 Q e w) Q) e w) := by rw [(by kernel_rfl : c95_9 = .seq c95_16 c95_10), W3_seq]
theorem c95_8_s (hw : Cur w) : W3 Try.prog 62 V95 c95_8 Q e w = (LoopP (fun e w k => W3 Try.prog 62 V95 c95_9 (seqQ k Q) e w) e w) := by rw [(by kernel_rfl : c95_8 = .loop c95_9), W3_loop]
theorem c95_7_s (hw : Cur w) : W3 Try.prog 62 V95 c95_7 Q e w = (W3 Try.prog 62 V95 c95_8 (blockQ 2 Q) e w) := by rw [(by kernel_rfl : c95_7 = .block 2 c95_8), W3_block]
theorem c95_6_s (hw : Cur w) : W3 Try.prog 62 V95 c95_6 Q e w = (opsW (nx Try.prog) mv gdP 62 V95 o95_9 (fun e w => W3 Try.prog 62 V95 c95_7 Q e w) o95_9.toList [] e e w) := by rw [(by kernel_rfl : c95_6 = .seq (.region 9 o95_9 false) c95_7), W3_seq_reg]
theorem c95_4_s (hw : Cur w) : W3 Try.prog 62 V95 c95_4 Q e w = (W3 Try.prog 62 V95 c95_6 (seqQ (fun e w => W3 Try.prog 62 V95 c95_5 Q e w) Q) e w) := by rw [(by kernel_rfl : c95_4 = .seq c95_6 c95_5), W3_seq]
theorem o95_3_eq : opsW N M G 62 V95 o95_3 k o95_3.toList [] e e w =
    (M (Value.int IntKind.i64 0) fun t9 =>
    k (Env.p e 9 t9) w) := nr (by kernel_rfl)
theorem o95_5_eq : opsW N M G 62 V95 o95_5 k o95_5.toList [] e e w =
    (M (e 9) fun t20 =>
    N (xv (xbin BinOp.add 3 (Operand.tmp 20) (Operand.const (Value.int IntKind.i64 1)) t20 (Value.int IntKind.i64 1))) w fun t21 w =>
    M t21 fun t9 =>
    k (Env.p e 9 t9) w) := nr (by kernel_rfl)
theorem c95_23_s (hw : Cur w) : W3 Try.prog 62 V95 c95_23 Q e w = (opsW (nx Try.prog) mv gdP 62 V95 o95_5 (fun e w => Q .normal e w) o95_5.toList [] e e w) := by rw [(by kernel_rfl : c95_23 = (.region 5 o95_5 false)), W3_reg]
theorem o95_6_eq : opsW N M G 62 V95 o95_6 k o95_6.toList [] e e w =
    (M (e 8) fun t22 =>
    M (e 9) fun t23 =>
    N (xv (Instr.indexAt 46 t22 t23)) w fun t24 w =>
    N (xv (Instr.fieldAt 106 t24 0)) w fun t25 w =>
    N (xv (Instr.loadAt 2 t25)) w fun t26 w =>
    M (e 2) fun t27 =>
    N (xv (xbin BinOp.leq 2 (Operand.tmp 26) (Operand.tmp 27) t26 t27)) w fun t28 w =>
    k (Env.p e 28 t28) w) := nr (by kernel_rfl)
theorem o95_7_eq : opsW N M G 62 V95 o95_7 k o95_7.toList [] e e w =
    (M (e 8) fun t29 =>
    M (e 9) fun t30 =>
    N (xv (Instr.indexAt 46 t29 t30)) w fun t31 w =>
    N (xv (Instr.fieldAt 106 t31 0)) w fun t32 w =>
    N (xv (Instr.loadAt 2 t32)) w fun t33 w =>
    N (xv (Instr.fieldAt 31 (e 7) 2)) w fun t34 w =>
    N (xu (Instr.storeAt 2 t34 t33)) w fun _ w =>
    k e w) := nr (by kernel_rfl)
theorem o95_8_eq : opsW N M G 62 V95 o95_8 k o95_8.toList [] e e w =
    (M (e 8) fun t35 =>
    M (e 9) fun t36 =>
    N (xv (Instr.indexAt 46 t35 t36)) w fun t37 w =>
    N (xv (Instr.fieldAt 106 t37 1)) w fun t38 w =>
    N (xv (Instr.loadAt 29 t38)) w fun t39 w =>
    N (xv (Instr.fieldAt 31 (e 7) 1)) w fun t40 w =>
    N (xu (Instr.storeAt 29 t40 t39)) w fun _ w =>
    k e w) := nr (by kernel_rfl)
theorem c95_28_s (hw : Cur w) : W3 Try.prog 62 V95 c95_28 Q e w = (opsW (nx Try.prog) mv gdP 62 V95 o95_8 (fun e w => Q .normal e w) o95_8.toList [] e e w) := by rw [(by kernel_rfl : c95_28 = (.region 8 o95_8 false)), W3_reg]
theorem c95_27_s (hw : Cur w) : W3 Try.prog 62 V95 c95_27 Q e w = (opsW (nx Try.prog) mv gdP 62 V95 o95_7 (fun e w => W3 Try.prog 62 V95 c95_28 Q e w) o95_7.toList [] e e w) := by rw [(by kernel_rfl : c95_27 = .seq (.region 7 o95_7 false) c95_28), W3_seq_reg]
theorem c95_26_v : opV V95 (.tmp 28) = true := by kernel_rfl
theorem c95_26_s (hw : Cur w) : W3 Try.prog 62 V95 c95_26 Q e w = (condP (ev e (.tmp 28)) (W3 Try.prog 62 V95 c95_27 Q e w) (Q .normal e w)) := by rw [(by kernel_rfl : c95_26 = .cond (.tmp 28) c95_27 Code.skip), W3_cond, c95_26_v, cond_true]; simp only [W3_ret, W3_skip, W3_exit, W3_label]
theorem c95_25_s (hw : Cur w) : W3 Try.prog 62 V95 c95_25 Q e w = (opsW (nx Try.prog) mv gdP 62 V95 o95_6 (fun e w => W3 Try.prog 62 V95 c95_26 Q e w) o95_6.toList [] e e w) := by rw [(by kernel_rfl : c95_25 = .seq (.region 6 o95_6 false) c95_26), W3_seq_reg]
theorem c95_24_s (hw : Cur w) : W3 Try.prog 62 V95 c95_24 Q e w = (W3 Try.prog 62 V95 c95_25 (blockQ 1 Q) e w) := by rw [(by kernel_rfl : c95_24 = .block 1 c95_25), W3_block]
theorem c95_22_s (hw : Cur w) : W3 Try.prog 62 V95 c95_22 Q e w = (W3 Try.prog 62 V95 c95_24 (seqQ (fun e w => W3 Try.prog 62 V95 c95_23 Q e w) Q) e w) := by rw [(by kernel_rfl : c95_22 = .seq c95_24 c95_23), W3_seq]
theorem o95_4_eq : opsW N M G 62 V95 o95_4 k o95_4.toList [] e e w =
    (M (e 9) fun t16 =>
    M (e 8) fun t17 =>
    N (builtin Builtin.len #[46] 3 ([false]).toArray ([t17]).toArray) w fun t18 w =>
    N (xv (xbin BinOp.lss 3 (Operand.tmp 16) (Operand.tmp 18) t16 t18)) w fun t19 w =>
    k (Env.p e 19 t19) w) := nr (by kernel_rfl)
theorem c95_30_v : opV V95 (.tmp 19) = true := by kernel_rfl
theorem c95_30_s (hw : Cur w) : W3 Try.prog 62 V95 c95_30 Q e w = (condP (ev e (.tmp 19)) (Q .normal e w) (Q (.exit 0) e w)) := by rw [(by kernel_rfl : c95_30 = .cond (.tmp 19) Code.skip (Code.exit 0)), W3_cond, c95_30_v, cond_true]; simp only [W3_ret, W3_skip, W3_exit, W3_label]
theorem c95_29_s (hw : Cur w) : W3 Try.prog 62 V95 c95_29 Q e w = (opsW (nx Try.prog) mv gdP 62 V95 o95_4 (fun e w => W3 Try.prog 62 V95 c95_30 Q e w) o95_4.toList [] e e w) := by rw [(by kernel_rfl : c95_29 = .seq (.region 4 o95_4 false) c95_30), W3_seq_reg]
theorem c95_21_s (hw : Cur w) : W3 Try.prog 62 V95 c95_21 Q e w = (W3 Try.prog 62 V95 c95_29 (seqQ (fun e w => W3 Try.prog 62 V95 c95_22 Q e w) Q) e w) := by rw [(by kernel_rfl : c95_21 = .seq c95_29 c95_22), W3_seq]
theorem c95_20_s (hw : Cur w) : W3 Try.prog 62 V95 c95_20 Q e w = (LoopP (fun e w k => W3 Try.prog 62 V95 c95_21 (seqQ k Q) e w) e w) := by rw [(by kernel_rfl : c95_20 = .loop c95_21), W3_loop]
theorem c95_19_s (hw : Cur w) : W3 Try.prog 62 V95 c95_19 Q e w = (W3 Try.prog 62 V95 c95_20 (blockQ 0 Q) e w) := by rw [(by kernel_rfl : c95_19 = .block 0 c95_20), W3_block]
theorem c95_18_s (hw : Cur w) : W3 Try.prog 62 V95 c95_18 Q e w = (opsW (nx Try.prog) mv gdP 62 V95 o95_3 (fun e w => W3 Try.prog 62 V95 c95_19 Q e w) o95_3.toList [] e e w) := by rw [(by kernel_rfl : c95_18 = .seq (.region 3 o95_3 false) c95_19), W3_seq_reg]
theorem c95_3_s (hw : Cur w) : W3 Try.prog 62 V95 c95_3 Q e w = (W3 Try.prog 62 V95 c95_18 (seqQ (fun e w => W3 Try.prog 62 V95 c95_4 Q e w) Q) e w) := by rw [(by kernel_rfl : c95_3 = .seq c95_18 c95_4), W3_seq]
theorem c95_2_s (hw : Cur w) : W3 Try.prog 62 V95 c95_2 Q e w = (opsW (nx Try.prog) mv gdP 62 V95 o95_2 (fun e w => W3 Try.prog 62 V95 c95_3 Q e w) o95_2.toList [] e e w) := by rw [(by kernel_rfl : c95_2 = .seq (.region 2 o95_2 false) c95_3), W3_seq_reg]
theorem c95_1_s (hw : Cur w) : W3 Try.prog 62 V95 c95_1 Q e w = (opsW (nx Try.prog) mv gdP 62 V95 o95_1 (fun e w => W3 Try.prog 62 V95 c95_2 Q e w) o95_1.toList [] e e w) := by rw [(by kernel_rfl : c95_1 = .seq (.region 1 o95_1 false) c95_2), W3_seq_reg]
theorem c95_s (hw : Cur w) : W3 Try.prog 62 V95 c95 Q e w = (opsW (nx Try.prog) mv gdP 62 V95 o95_0 (fun e w => W3 Try.prog 62 V95 c95_1 Q e w) o95_0.toList [] e e w) := by rw [(by kernel_rfl : c95 = .seq (.region 0 o95_0 false) c95_1), W3_seq_reg]
theorem call95 {a0 a1 a2 : Value} {w : World} {R : Value → World → Prop} (h : W3 Try.prog 62 V95 c95 (retQ Try.prog [.cell 6 31] R) (argE [a0, a1, a2]) w) : CallsN Try.prog 95 [a0, a1, a2] w R :=
  callsN_of_W3 (c := c95) (rs := [.cell 6 31]) V95 Try.ntmps95 (by rw [Try.results95]) mixed Try.func95 (by kernel_rfl) (by kernel_rfl) (by kernel_rfl) (by kernel_rfl) (by simp) h
noncomputable def hk95 := And.intro (@o95_0_eq) <| And.intro (@o95_1_eq) <| And.intro (@o95_2_eq) <| And.intro (@o95_14_eq) <| And.intro (@c95_5_s) <| And.intro (@o95_9_eq) <| And.intro (@o95_11_eq) <| And.intro (@c95_11_s) <| And.intro (@o95_12_eq) <| And.intro (@o95_13_eq) <| And.intro (@c95_15_s) <| And.intro (@c95_14_s) <| And.intro (@c95_13_s) <| And.intro (@c95_12_s) <| And.intro (@c95_10_s) <| And.intro (@o95_10_eq) <| And.intro (@c95_17_s) <| And.intro (@c95_16_s) <| And.intro (@c95_9_s) <| And.intro (@c95_8_s) <| And.intro (@c95_7_s) <| And.intro (@c95_6_s) <| And.intro (@c95_4_s) <| And.intro (@o95_3_eq) <| And.intro (@o95_5_eq) <| And.intro (@c95_23_s) <| And.intro (@o95_6_eq) <| And.intro (@o95_7_eq) <| And.intro (@o95_8_eq) <| And.intro (@c95_28_s) <| And.intro (@c95_27_s) <| And.intro (@c95_26_s) <| And.intro (@c95_25_s) <| And.intro (@c95_24_s) <| And.intro (@c95_22_s) <| And.intro (@o95_4_eq) <| And.intro (@c95_30_s) <| And.intro (@c95_29_s) <| And.intro (@c95_21_s) <| And.intro (@c95_20_s) <| And.intro (@c95_19_s) <| And.intro (@c95_18_s) <| And.intro (@c95_3_s) <| And.intro (@c95_2_s) <| And.intro (@c95_1_s) <| @c95_s
-- K95: ↓hk95
/-! ### (*vouch/vouchref05.Store) . All -/
def V96 : Nat → Bool := fun i => [0, 1, 4, 5, 6, 13, 26].elem i
noncomputable def c96 : Code := (Try.f96.body.getD .skip)
noncomputable def o96_0 : Array Oper := rO (cL c96)
noncomputable def c96_1 : Code := (cR c96)
noncomputable def o96_1 : Array Oper := rO (cL c96_1)
noncomputable def c96_2 : Code := (cR c96_1)
noncomputable def c96_3 : Code := (cR c96_2)
noncomputable def o96_7 : Array Oper := rO (cL c96_3)
noncomputable def c96_4 : Code := (cL c96_2)
noncomputable def o96_2 : Array Oper := rO (cL c96_4)
noncomputable def c96_5 : Code := (cR c96_4)
noncomputable def c96_6 : Code := (cL c96_5)
noncomputable def c96_7 : Code := (cL c96_6)
noncomputable def c96_8 : Code := (cR c96_7)
noncomputable def c96_9 : Code := (cR c96_8)
noncomputable def o96_4 : Array Oper := rO c96_9
noncomputable def c96_10 : Code := (cL c96_8)
noncomputable def c96_11 : Code := (cL c96_10)
noncomputable def o96_5 : Array Oper := rO (cL c96_11)
noncomputable def c96_12 : Code := (cR c96_11)
noncomputable def c96_13 : Code := (cL c96_12)
noncomputable def o96_6 : Array Oper := rO c96_13
noncomputable def c96_14 : Code := (cL c96_7)
noncomputable def o96_3 : Array Oper := rO (cL c96_14)
noncomputable def c96_15 : Code := (cR c96_14)
theorem o96_0_eq : opsW N M G 49 V96 o96_0 k o96_0.toList [] e e w =
    (M (Value.slice none 0 0) fun t4 =>
    k (Env.p e 4 t4) w) := nr (by kernel_rfl)
theorem o96_1_eq : opsW N M G 49 V96 o96_1 k o96_1.toList [] e e w =
    (M (Value.slice none 0 0) fun t5 =>
    k (Env.p e 5 t5) w) := nr (by kernel_rfl)
theorem o96_7_eq : opsW N M G 49 V96 o96_7 k o96_7.toList [] e e w =
    (M (e 5) fun t48 =>
    M t48 fun t4 =>
    k (Env.p e 4 t4) w) := nr (by kernel_rfl)
theorem c96_3_s (hw : Cur w) : W3 Try.prog 49 V96 c96_3 Q e w = (opsW (nx Try.prog) mv gdP 49 V96 o96_7 (fun e w => Q .ret e w) o96_7.toList [] e e w) := by rw [(by kernel_rfl : c96_3 = .seq (.region 7 o96_7 false) Code.ret), W3_seq_reg]; simp only [W3_ret, W3_skip, W3_exit, W3_label]
theorem o96_2_eq : opsW N M G 49 V96 o96_2 k o96_2.toList [] e e w =
    (M (Value.int IntKind.i64 0) fun t6 =>
    k (Env.p e 6 t6) w) := nr (by kernel_rfl)
theorem o96_4_eq : opsW N M G 49 V96 o96_4 k o96_4.toList [] e e w =
    (M (e 6) fun t14 =>
    N (xv (xbin BinOp.add 3 (Operand.tmp 14) (Operand.const (Value.int IntKind.i64 1)) t14 (Value.int IntKind.i64 1))) w fun t15 w =>
    M t15 fun t6 =>
    k (Env.p e 6 t6) w) := nr (by kernel_rfl)
theorem c96_9_s (hw : Cur w) : W3 Try.prog 49 V96 c96_9 Q e w = (opsW (nx Try.prog) mv gdP 49 V96 o96_4 (fun e w => Q .normal e w) o96_4.toList [] e e w) := by rw [(by kernel_rfl : c96_9 = (.region 4 o96_4 false)), W3_reg]
theorem o96_5_eq : opsW N M G 49 V96 o96_5 k o96_5.toList [] e e w =
    (M (e 0) fun t16 =>
    N (xnil t16) w fun t17 w =>
    N (xv (Instr.fieldAt 104 t17 0)) w fun t18 w =>
    N (xv (Instr.loadAt 102 t18)) w fun t19 w =>
    M (e 6) fun t20 =>
    N (xv (Instr.indexAt 102 t19 t20)) w fun t21 w =>
    N (xv (Instr.fieldAt 155 t21 1)) w fun t22 w =>
    N (xv (Instr.fieldAt 44 t22 0)) w fun t23 w =>
    N (xv (Instr.loadAt 9 t23)) w fun t24 w =>
    M (e 1) fun t25 =>
    N (xv (xbin BinOp.eql 9 (Operand.tmp 24) (Operand.tmp 25) t24 t25)) w fun t26 w =>
    k (Env.p e 26 t26) w) := nr (by kernel_rfl)
theorem o96_6_eq : drawGo3 N T3 M G H 49 V96 o96_6 (puK o96_6) k o96_6.size [] (Array.replicate o96_6.size false) [] e e w =
    (M (e 5) fun t27 =>
    M (e 0) fun t28 =>
    T3 (FrX none w) (xnil t28) fun t29 =>
    T3 (FrX none w) (xv (Instr.fieldAt 104 t29 0)) fun t30 =>
    T3 (FrX (some []) w) (xv (Instr.loadAt 102 t30)) fun t31 =>
    M (e 6) fun t32 =>
    T3 (FrX none w) (xv (Instr.indexAt 102 t31 t32)) fun t33 =>
    T3 (FrX none w) (xv (Instr.fieldAt 155 t33 0)) fun t34 =>
    T3 (FrX (some []) w) (xv (Instr.loadAt 2 t34)) fun t35 =>
    M (e 0) fun t36 =>
    T3 (FrX none w) (xnil t36) fun t37 =>
    T3 (FrX none w) (xv (Instr.fieldAt 104 t37 0)) fun t38 =>
    T3 (FrX (some []) w) (xv (Instr.loadAt 102 t38)) fun t39 =>
    M (e 6) fun t40 =>
    T3 (FrX none w) (xv (Instr.indexAt 102 t39 t40)) fun t41 =>
    T3 (FrX none w) (xv (Instr.fieldAt 155 t41 1)) fun t42 =>
    T3 (FrX none w) (xv (Instr.fieldAt 44 t42 1)) fun t43 =>
    T3 (FrX (some []) w) (xv (Instr.loadAt 29 t43)) fun t44 =>
    T3 (FrX none w) (xv (Instr.build 106 ([(0, t35), (1, t44)]).toArray)) fun t45 =>
    N (xv (Instr.buildSlice 46 1 ([(0, t45)]).toArray)) w fun t46 w19 =>
    N (builtin Builtin.append #[46, 46] 46 ([false, false]).toArray ([t27, t46]).toArray) w19 fun t47 w20 =>
    M t47 fun t5 =>
    (k (Env.p e 5 t5)) w20) := nr (by kernel_rfl)
theorem c96_13_s (hw : Cur w) : W3 Try.prog 49 V96 c96_13 Q e w = (drawGo3 (nx Try.prog) (takeP Try.prog) mv gdP gdT 49 V96 o96_6 (puK o96_6) (fun e w => Q .normal e w) o96_6.size [] (Array.replicate o96_6.size false) [] e e w.drew) := by rw [(by kernel_rfl : c96_13 = (.region 6 o96_6 true)), W3_regD']
theorem c96_12_v : opV V96 (.tmp 26) = true := by kernel_rfl
theorem c96_12_s (hw : Cur w) : W3 Try.prog 49 V96 c96_12 Q e w = (condP (ev e (.tmp 26)) (W3 Try.prog 49 V96 c96_13 Q e w) (Q .normal e w)) := by rw [(by kernel_rfl : c96_12 = .cond (.tmp 26) c96_13 Code.skip), W3_cond, c96_12_v, cond_true]; simp only [W3_ret, W3_skip, W3_exit, W3_label]
theorem c96_11_s (hw : Cur w) : W3 Try.prog 49 V96 c96_11 Q e w = (opsW (nx Try.prog) mv gdP 49 V96 o96_5 (fun e w => W3 Try.prog 49 V96 c96_12 Q e w) o96_5.toList [] e e w) := by rw [(by kernel_rfl : c96_11 = .seq (.region 5 o96_5 false) c96_12), W3_seq_reg]
theorem c96_10_s (hw : Cur w) : W3 Try.prog 49 V96 c96_10 Q e w = (W3 Try.prog 49 V96 c96_11 (blockQ 1 Q) e w) := by rw [(by kernel_rfl : c96_10 = .block 1 c96_11), W3_block]
theorem c96_8_s (hw : Cur w) : W3 Try.prog 49 V96 c96_8 Q e w = (W3 Try.prog 49 V96 c96_10 (seqQ (fun e w => W3 Try.prog 49 V96 c96_9 Q e w) Q) e w) := by rw [(by kernel_rfl : c96_8 = .seq c96_10 c96_9), W3_seq]
theorem o96_3_eq : opsW N M G 49 V96 o96_3 k o96_3.toList [] e e w =
    (M (e 6) fun t7 =>
    M (e 0) fun t8 =>
    N (xnil t8) w fun t9 w =>
    N (xv (Instr.fieldAt 104 t9 0)) w fun t10 w =>
    N (xv (Instr.loadAt 102 t10)) w fun t11 w =>
    N (builtin Builtin.len #[102] 3 ([false]).toArray ([t11]).toArray) w fun t12 w =>
    N (xv (xbin BinOp.lss 3 (Operand.tmp 7) (Operand.tmp 12) t7 t12)) w fun t13 w =>
    k (Env.p e 13 t13) w) := nr (by kernel_rfl)
theorem c96_15_v : opV V96 (.tmp 13) = true := by kernel_rfl
theorem c96_15_s (hw : Cur w) : W3 Try.prog 49 V96 c96_15 Q e w = (condP (ev e (.tmp 13)) (Q .normal e w) (Q (.exit 0) e w)) := by rw [(by kernel_rfl : c96_15 = .cond (.tmp 13) Code.skip (Code.exit 0)), W3_cond, c96_15_v, cond_true]; simp only [W3_ret, W3_skip, W3_exit, W3_label]
theorem c96_14_s (hw : Cur w) : W3 Try.prog 49 V96 c96_14 Q e w = (opsW (nx Try.prog) mv gdP 49 V96 o96_3 (fun e w => W3 Try.prog 49 V96 c96_15 Q e w) o96_3.toList [] e e w) := by rw [(by kernel_rfl : c96_14 = .seq (.region 3 o96_3 false) c96_15), W3_seq_reg]
theorem c96_7_s (hw : Cur w) : W3 Try.prog 49 V96 c96_7 Q e w = (W3 Try.prog 49 V96 c96_14 (seqQ (fun e w => W3 Try.prog 49 V96 c96_8 Q e w) Q) e w) := by rw [(by kernel_rfl : c96_7 = .seq c96_14 c96_8), W3_seq]
theorem c96_6_s (hw : Cur w) : W3 Try.prog 49 V96 c96_6 Q e w = (LoopP (fun e w k => W3 Try.prog 49 V96 c96_7 (seqQ k Q) e w) e w) := by rw [(by kernel_rfl : c96_6 = .loop c96_7), W3_loop]
theorem c96_5_s (hw : Cur w) : W3 Try.prog 49 V96 c96_5 Q e w = (W3 Try.prog 49 V96 c96_6 (blockQ 0 Q) e w) := by rw [(by kernel_rfl : c96_5 = .block 0 c96_6), W3_block]
theorem c96_4_s (hw : Cur w) : W3 Try.prog 49 V96 c96_4 Q e w = (opsW (nx Try.prog) mv gdP 49 V96 o96_2 (fun e w => W3 Try.prog 49 V96 c96_5 Q e w) o96_2.toList [] e e w) := by rw [(by kernel_rfl : c96_4 = .seq (.region 2 o96_2 false) c96_5), W3_seq_reg]
theorem c96_2_s (hw : Cur w) : W3 Try.prog 49 V96 c96_2 Q e w = (W3 Try.prog 49 V96 c96_4 (seqQ (fun e w => W3 Try.prog 49 V96 c96_3 Q e w) Q) e w) := by rw [(by kernel_rfl : c96_2 = .seq c96_4 c96_3), W3_seq]
theorem c96_1_s (hw : Cur w) : W3 Try.prog 49 V96 c96_1 Q e w = (opsW (nx Try.prog) mv gdP 49 V96 o96_1 (fun e w => W3 Try.prog 49 V96 c96_2 Q e w) o96_1.toList [] e e w) := by rw [(by kernel_rfl : c96_1 = .seq (.region 1 o96_1 false) c96_2), W3_seq_reg]
theorem c96_s (hw : Cur w) : W3 Try.prog 49 V96 c96 Q e w = (opsW (nx Try.prog) mv gdP 49 V96 o96_0 (fun e w => W3 Try.prog 49 V96 c96_1 Q e w) o96_0.toList [] e e w) := by rw [(by kernel_rfl : c96 = .seq (.region 0 o96_0 false) c96_1), W3_seq_reg]
theorem call96 {a0 a1 : Value} {w : World} {R : Value → World → Prop} (h : W3 Try.prog 49 V96 c96 (retQ Try.prog [.tmp 4] R) (argE [a0, a1]) w) : CallsN Try.prog 96 [a0, a1] w R :=
  callsN_of_W3 (c := c96) (rs := [.tmp 4]) V96 Try.ntmps96 (by rw [Try.results96]) mixed Try.func96 (by kernel_rfl) (by kernel_rfl) (by kernel_rfl) (by kernel_rfl) (by simp) h
noncomputable def hk96 := And.intro (@o96_0_eq) <| And.intro (@o96_1_eq) <| And.intro (@o96_7_eq) <| And.intro (@c96_3_s) <| And.intro (@o96_2_eq) <| And.intro (@o96_4_eq) <| And.intro (@c96_9_s) <| And.intro (@o96_5_eq) <| And.intro (@o96_6_eq) <| And.intro (@c96_13_s) <| And.intro (@c96_12_s) <| And.intro (@c96_11_s) <| And.intro (@c96_10_s) <| And.intro (@c96_8_s) <| And.intro (@o96_3_eq) <| And.intro (@c96_15_s) <| And.intro (@c96_14_s) <| And.intro (@c96_7_s) <| And.intro (@c96_6_s) <| And.intro (@c96_5_s) <| And.intro (@c96_4_s) <| And.intro (@c96_2_s) <| And.intro (@c96_1_s) <| @c96_s
-- K96: ↓hk96
/-! ### vouch/vouchref05.GoodKey -/
def V94 : Nat → Bool := fun i => [0, 2].elem i
noncomputable def c94 : Code := (Try.f94.body.getD .skip)
noncomputable def o94_0 : Array Oper := rO (cL c94)
noncomputable def c94_1 : Code := (cR c94)
noncomputable def o94_1 : Array Oper := rO (cL c94_1)
theorem o94_0_eq : opsW N M G 10 V94 o94_0 k o94_0.toList [] e e w =
    (M (Value.bool false) fun t2 =>
    k (Env.p e 2 t2) w) := nr (by kernel_rfl)
theorem o94_1_eq : opsW N M G 10 V94 o94_1 k o94_1.toList [] e e w =
    (M (e 0) fun t3 =>
    N (xv (xbin BinOp.neq 9 (Operand.tmp 3) (Operand.const (Value.string ⟨#[]⟩)) t3 (Value.string ⟨#[]⟩))) w fun t4 w =>
    M t4 fun t5 =>
    G (isB t5 true) (fun K => M (e 0) fun v => K v w) (fun t6 w =>
    G (isB t5 true) (fun K => N (builtin Builtin.len #[9] 3 ([false]).toArray ([t6]).toArray) w K) (fun t7 w =>
    G (isB t5 true) (fun K => N (xv (xbin BinOp.leq 3 (Operand.tmp 7) (Operand.const (Value.int IntKind.i64 32)) t7 (Value.int IntKind.i64 32))) w K) (fun t8 w =>
    N (xpick t5 t8 (Value.bool false)) w fun t9 w =>
    M t9 fun t2 =>
    k (Env.p e 2 t2) w) w) w) w) := nr (by kernel_rfl)
theorem c94_1_s (hw : Cur w) : W3 Try.prog 10 V94 c94_1 Q e w = (opsW (nx Try.prog) mv gdP 10 V94 o94_1 (fun e w => Q .ret e w) o94_1.toList [] e e w) := by rw [(by kernel_rfl : c94_1 = .seq (.region 1 o94_1 false) Code.ret), W3_seq_reg]; simp only [W3_ret, W3_skip, W3_exit, W3_label]
theorem c94_s (hw : Cur w) : W3 Try.prog 10 V94 c94 Q e w = (opsW (nx Try.prog) mv gdP 10 V94 o94_0 (fun e w => W3 Try.prog 10 V94 c94_1 Q e w) o94_0.toList [] e e w) := by rw [(by kernel_rfl : c94 = .seq (.region 0 o94_0 false) c94_1), W3_seq_reg]
theorem call94 {a0 : Value} {w : World} {R : Value → World → Prop} (h : W3 Try.prog 10 V94 c94 (retQ Try.prog [.tmp 2] R) (argE [a0]) w) : CallsN Try.prog 94 [a0] w R :=
  callsN_of_W3 (c := c94) (rs := [.tmp 2]) V94 Try.ntmps94 (by rw [Try.results94]) mixed Try.func94 (by kernel_rfl) (by kernel_rfl) (by kernel_rfl) (by kernel_rfl) (by simp) h
noncomputable def hk94 := And.intro (@o94_0_eq) <| And.intro (@o94_1_eq) <| And.intro (@c94_1_s) <| @c94_s
-- K94: ↓hk94
/-! ### vouch/vouchref05.GoodValue -/
def V100 : Nat → Bool := fun i => [0, 1, 2, 5].elem i
noncomputable def c100 : Code := (Try.f100.body.getD .skip)
noncomputable def o100_0 : Array Oper := rO (cL c100)
noncomputable def c100_1 : Code := (cR c100)
noncomputable def c100_2 : Code := (cR c100_1)
noncomputable def o100_3 : Array Oper := rO (cL c100_2)
noncomputable def c100_3 : Code := (cL c100_1)
noncomputable def o100_1 : Array Oper := rO (cL c100_3)
noncomputable def c100_4 : Code := (cR c100_3)
noncomputable def c100_5 : Code := (cL c100_4)
noncomputable def o100_2 : Array Oper := rO (cL c100_5)
theorem o100_0_eq : opsW N M G 13 V100 o100_0 k o100_0.toList [] e e w =
    (N (xv (Instr.box 29 (e 0))) w fun t1 w =>
    M (Value.bool false) fun t2 =>
    k (Env.p (Env.p e 1 t1) 2 t2) w) := nr (by kernel_rfl)
theorem o100_3_eq : opsW N M G 13 V100 o100_3 k o100_3.toList [] e e w =
    (N (xv (Instr.fieldAt 29 (e 1) 1)) w fun t9 w =>
    N (xv (Instr.loadAt 9 t9)) w fun t10 w =>
    N (builtin Builtin.len #[9] 3 ([false]).toArray ([t10]).toArray) w fun t11 w =>
    N (xv (xbin BinOp.leq 3 (Operand.tmp 11) (Operand.const (Value.int IntKind.i64 256)) t11 (Value.int IntKind.i64 256))) w fun t12 w =>
    M t12 fun t2 =>
    k (Env.p e 2 t2) w) := nr (by kernel_rfl)
theorem c100_2_s (hw : Cur w) : W3 Try.prog 13 V100 c100_2 Q e w = (opsW (nx Try.prog) mv gdP 13 V100 o100_3 (fun e w => Q .ret e w) o100_3.toList [] e e w) := by rw [(by kernel_rfl : c100_2 = .seq (.region 3 o100_3 false) Code.ret), W3_seq_reg]; simp only [W3_ret, W3_skip, W3_exit, W3_label]
theorem o100_1_eq : opsW N M G 13 V100 o100_1 k o100_1.toList [] e e w =
    (N (xv (Instr.fieldAt 29 (e 1) 0)) w fun t3 w =>
    N (xv (Instr.loadAt 4 t3)) w fun t4 w =>
    N (xv (Op.unary UnOp.not t4)) w fun t5 w =>
    k (Env.p e 5 t5) w) := nr (by kernel_rfl)
theorem o100_2_eq : opsW N M G 13 V100 o100_2 k o100_2.toList [] e e w =
    (N (xv (Instr.fieldAt 29 (e 1) 1)) w fun t6 w =>
    N (xv (Instr.loadAt 9 t6)) w fun t7 w =>
    N (xv (xbin BinOp.eql 9 (Operand.tmp 7) (Operand.const (Value.string ⟨#[]⟩)) t7 (Value.string ⟨#[]⟩))) w fun t8 w =>
    M t8 fun t2 =>
    k (Env.p e 2 t2) w) := nr (by kernel_rfl)
theorem c100_5_s (hw : Cur w) : W3 Try.prog 13 V100 c100_5 Q e w = (opsW (nx Try.prog) mv gdP 13 V100 o100_2 (fun e w => Q .ret e w) o100_2.toList [] e e w) := by rw [(by kernel_rfl : c100_5 = .seq (.region 2 o100_2 false) Code.ret), W3_seq_reg]; simp only [W3_ret, W3_skip, W3_exit, W3_label]
theorem c100_4_v : opV V100 (.tmp 5) = true := by kernel_rfl
theorem c100_4_s (hw : Cur w) : W3 Try.prog 13 V100 c100_4 Q e w = (condP (ev e (.tmp 5)) (W3 Try.prog 13 V100 c100_5 Q e w) (Q .normal e w)) := by rw [(by kernel_rfl : c100_4 = .cond (.tmp 5) c100_5 Code.skip), W3_cond, c100_4_v, cond_true]; simp only [W3_ret, W3_skip, W3_exit, W3_label]
theorem c100_3_s (hw : Cur w) : W3 Try.prog 13 V100 c100_3 Q e w = (opsW (nx Try.prog) mv gdP 13 V100 o100_1 (fun e w => W3 Try.prog 13 V100 c100_4 Q e w) o100_1.toList [] e e w) := by rw [(by kernel_rfl : c100_3 = .seq (.region 1 o100_1 false) c100_4), W3_seq_reg]
theorem c100_1_s (hw : Cur w) : W3 Try.prog 13 V100 c100_1 Q e w = (W3 Try.prog 13 V100 c100_3 (seqQ (fun e w => W3 Try.prog 13 V100 c100_2 Q e w) Q) e w) := by rw [(by kernel_rfl : c100_1 = .seq c100_3 c100_2), W3_seq]
theorem c100_s (hw : Cur w) : W3 Try.prog 13 V100 c100 Q e w = (opsW (nx Try.prog) mv gdP 13 V100 o100_0 (fun e w => W3 Try.prog 13 V100 c100_1 Q e w) o100_0.toList [] e e w) := by rw [(by kernel_rfl : c100 = .seq (.region 0 o100_0 false) c100_1), W3_seq_reg]
theorem call100 {a0 : Value} {w : World} {R : Value → World → Prop} (h : W3 Try.prog 13 V100 c100 (retQ Try.prog [.tmp 2] R) (argE [a0]) w) : CallsN Try.prog 100 [a0] w R :=
  callsN_of_W3 (c := c100) (rs := [.tmp 2]) V100 Try.ntmps100 (by rw [Try.results100]) mixed Try.func100 (by kernel_rfl) (by kernel_rfl) (by kernel_rfl) (by kernel_rfl) (by simp) h
noncomputable def hk100 := And.intro (@o100_0_eq) <| And.intro (@o100_3_eq) <| And.intro (@c100_2_s) <| And.intro (@o100_1_eq) <| And.intro (@o100_2_eq) <| And.intro (@c100_5_s) <| And.intro (@c100_4_s) <| And.intro (@c100_3_s) <| And.intro (@c100_1_s) <| @c100_s
-- K100: ↓hk100
/-! ### vouch/vouchref05.SameVersions -/
def V78 : Nat → Bool := fun i => [0, 1, 4, 5, 10, 14, 25].elem i
noncomputable def c78 : Code := (Try.f78.body.getD .skip)
noncomputable def o78_0 : Array Oper := rO (cL c78)
noncomputable def c78_1 : Code := (cR c78)
noncomputable def c78_2 : Code := (cR c78_1)
noncomputable def c78_3 : Code := (cR c78_2)
noncomputable def o78_8 : Array Oper := rO (cL c78_3)
noncomputable def c78_4 : Code := (cL c78_2)
noncomputable def o78_3 : Array Oper := rO (cL c78_4)
noncomputable def c78_5 : Code := (cR c78_4)
noncomputable def c78_6 : Code := (cL c78_5)
noncomputable def c78_7 : Code := (cL c78_6)
noncomputable def c78_8 : Code := (cR c78_7)
noncomputable def c78_9 : Code := (cR c78_8)
noncomputable def o78_5 : Array Oper := rO c78_9
noncomputable def c78_10 : Code := (cL c78_8)
noncomputable def c78_11 : Code := (cL c78_10)
noncomputable def o78_6 : Array Oper := rO (cL c78_11)
noncomputable def c78_12 : Code := (cR c78_11)
noncomputable def c78_13 : Code := (cL c78_12)
noncomputable def o78_7 : Array Oper := rO (cL c78_13)
noncomputable def c78_14 : Code := (cL c78_7)
noncomputable def o78_4 : Array Oper := rO (cL c78_14)
noncomputable def c78_15 : Code := (cR c78_14)
noncomputable def c78_16 : Code := (cL c78_1)
noncomputable def o78_1 : Array Oper := rO (cL c78_16)
noncomputable def c78_17 : Code := (cR c78_16)
noncomputable def c78_18 : Code := (cL c78_17)
noncomputable def o78_2 : Array Oper := rO (cL c78_18)
theorem o78_0_eq : opsW N M G 26 V78 o78_0 k o78_0.toList [] e e w =
    (M (Value.bool false) fun t4 =>
    k (Env.p e 4 t4) w) := nr (by kernel_rfl)
theorem o78_8_eq : opsW N M G 26 V78 o78_8 k o78_8.toList [] e e w =
    (M (Value.bool true) fun t4 =>
    k (Env.p e 4 t4) w) := nr (by kernel_rfl)
theorem c78_3_s (hw : Cur w) : W3 Try.prog 26 V78 c78_3 Q e w = (opsW (nx Try.prog) mv gdP 26 V78 o78_8 (fun e w => Q .ret e w) o78_8.toList [] e e w) := by rw [(by kernel_rfl : c78_3 = .seq (.region 8 o78_8 false) Code.ret), W3_seq_reg]; simp only [W3_ret, W3_skip, W3_exit, W3_label]
theorem o78_3_eq : opsW N M G 26 V78 o78_3 k o78_3.toList [] e e w =
    (M (Value.int IntKind.i64 0) fun t5 =>
    k (Env.p e 5 t5) w) := nr (by kernel_rfl)
theorem o78_5_eq : opsW N M G 26 V78 o78_5 k o78_5.toList [] e e w =
    (M (e 5) fun t15 =>
    N (xv (xbin BinOp.add 3 (Operand.tmp 15) (Operand.const (Value.int IntKind.i64 1)) t15 (Value.int IntKind.i64 1))) w fun t16 w =>
    M t16 fun t5 =>
    k (Env.p e 5 t5) w) := nr (by kernel_rfl)
theorem c78_9_s (hw : Cur w) : W3 Try.prog 26 V78 c78_9 Q e w = (opsW (nx Try.prog) mv gdP 26 V78 o78_5 (fun e w => Q .normal e w) o78_5.toList [] e e w) := by rw [(by kernel_rfl : c78_9 = (.region 5 o78_5 false)), W3_reg]
theorem o78_6_eq : drawGo3 N T3 M G H 26 V78 o78_6 (puK o78_6) k o78_6.size [] (Array.replicate o78_6.size false) [] e e w =
    (M (e 0) fun t17 =>
    M (e 5) fun t18 =>
    T3 (FrX none w) (xv (Instr.indexAt 46 t17 t18)) fun t19 =>
    T3 (FrX (some []) w) (xv (Instr.loadAt 106 t19)) fun t20 =>
    M (e 1) fun t21 =>
    M (e 5) fun t22 =>
    T3 (FrX none w) (xv (Instr.indexAt 46 t21 t22)) fun t23 =>
    T3 (FrX (some []) w) (xv (Instr.loadAt 106 t23)) fun t24 =>
    T3 (FrX none w) (xv (xbin BinOp.neq 106 (Operand.tmp 20) (Operand.tmp 24) t20 t24)) fun t25 =>
    (k (Env.p e 25 t25)) w) := nr (by kernel_rfl)
theorem o78_7_eq : opsW N M G 26 V78 o78_7 k o78_7.toList [] e e w =
    (M (Value.bool false) fun t4 =>
    k (Env.p e 4 t4) w) := nr (by kernel_rfl)
theorem c78_13_s (hw : Cur w) : W3 Try.prog 26 V78 c78_13 Q e w = (opsW (nx Try.prog) mv gdP 26 V78 o78_7 (fun e w => Q .ret e w) o78_7.toList [] e e w) := by rw [(by kernel_rfl : c78_13 = .seq (.region 7 o78_7 false) Code.ret), W3_seq_reg]; simp only [W3_ret, W3_skip, W3_exit, W3_label]
theorem c78_12_v : opV V78 (.tmp 25) = true := by kernel_rfl
theorem c78_12_s (hw : Cur w) : W3 Try.prog 26 V78 c78_12 Q e w = (condP (ev e (.tmp 25)) (W3 Try.prog 26 V78 c78_13 Q e w) (Q .normal e w)) := by rw [(by kernel_rfl : c78_12 = .cond (.tmp 25) c78_13 Code.skip), W3_cond, c78_12_v, cond_true]; simp only [W3_ret, W3_skip, W3_exit, W3_label]
theorem c78_11_s (hw : Cur w) : W3 Try.prog 26 V78 c78_11 Q e w = (drawGo3 (nx Try.prog) (takeP Try.prog) mv gdP gdT 26 V78 o78_6 (puK o78_6) (fun e w => W3 Try.prog 26 V78 c78_12 Q e w) o78_6.size [] (Array.replicate o78_6.size false) [] e e w.drew) := by rw [(by kernel_rfl : c78_11 = .seq (.region 6 o78_6 true) c78_12), W3_seq_regD]
theorem c78_10_s (hw : Cur w) : W3 Try.prog 26 V78 c78_10 Q e w = (W3 Try.prog 26 V78 c78_11 (blockQ 1 Q) e w) := by rw [(by kernel_rfl : c78_10 = .block 1 c78_11), W3_block]
theorem c78_8_s (hw : Cur w) : W3 Try.prog 26 V78 c78_8 Q e w = (W3 Try.prog 26 V78 c78_10 (seqQ (fun e w => W3 Try.prog 26 V78 c78_9 Q e w) Q) e w) := by rw [(by kernel_rfl : c78_8 = .seq c78_10 c78_9), W3_seq]
theorem o78_4_eq : opsW N M G 26 V78 o78_4 k o78_4.toList [] e e w =
    (M (e 5) fun t11 =>
    M (e 0) fun t12 =>
    N (builtin Builtin.len #[46] 3 ([false]).toArray ([t12]).toArray) w fun t13 w =>
    N (xv (xbin BinOp.lss 3 (Operand.tmp 11) (Operand.tmp 13) t11 t13)) w fun t14 w =>
    k (Env.p e 14 t14) w) := nr (by kernel_rfl)
theorem c78_15_v : opV V78 (.tmp 14) = true := by kernel_rfl
theorem c78_15_s (hw : Cur w) : W3 Try.prog 26 V78 c78_15 Q e w = (condP (ev e (.tmp 14)) (Q .normal e w) (Q (.exit 0) e w)) := by rw [(by kernel_rfl : c78_15 = .cond (.tmp 14) Code.skip (Code.exit 0)), W3_cond, c78_15_v, cond_true]; simp only [W3_ret, W3_skip, W3_exit, W3_label]
theorem c78_14_s (hw : Cur w) : W3 Try.prog 26 V78 c78_14 Q e w = (opsW (nx Try.prog) mv gdP 26 V78 o78_4 (fun e w => W3 Try.prog 26 V78 c78_15 Q e w) o78_4.toList [] e e w) := by rw [(by kernel_rfl : c78_14 = .seq (.region 4 o78_4 false) c78_15), W3_seq_reg]
theorem c78_7_s (hw : Cur w) : W3 Try.prog 26 V78 c78_7 Q e w = (W3 Try.prog 26 V78 c78_14 (seqQ (fun e w => W3 Try.prog 26 V78 c78_8 Q e w) Q) e w) := by rw [(by kernel_rfl : c78_7 = .seq c78_14 c78_8), W3_seq]
theorem c78_6_s (hw : Cur w) : W3 Try.prog 26 V78 c78_6 Q e w = (LoopP (fun e w k => W3 Try.prog 26 V78 c78_7 (seqQ k Q) e w) e w) := by rw [(by kernel_rfl : c78_6 = .loop c78_7), W3_loop]
theorem c78_5_s (hw : Cur w) : W3 Try.prog 26 V78 c78_5 Q e w = (W3 Try.prog 26 V78 c78_6 (blockQ 0 Q) e w) := by rw [(by kernel_rfl : c78_5 = .block 0 c78_6), W3_block]
theorem c78_4_s (hw : Cur w) : W3 Try.prog 26 V78 c78_4 Q e w = (opsW (nx Try.prog) mv gdP 26 V78 o78_3 (fun e w => W3 Try.prog 26 V78 c78_5 Q e w) o78_3.toList [] e e w) := by rw [(by kernel_rfl : c78_4 = .seq (.region 3 o78_3 false) c78_5), W3_seq_reg]
theorem c78_2_s (hw : Cur w) : W3 Try.prog 26 V78 c78_2 Q e w = (W3 Try.prog 26 V78 c78_4 (seqQ (fun e w => W3 Try.prog 26 V78 c78_3 Q e w) Q) e w) := by rw [(by kernel_rfl : c78_2 = .seq c78_4 c78_3), W3_seq]
theorem o78_1_eq : opsW N M G 26 V78 o78_1 k o78_1.toList [] e e w =
    (M (e 0) fun t6 =>
    N (builtin Builtin.len #[46] 3 ([false]).toArray ([t6]).toArray) w fun t7 w =>
    M (e 1) fun t8 =>
    N (builtin Builtin.len #[46] 3 ([false]).toArray ([t8]).toArray) w fun t9 w =>
    N (xv (xbin BinOp.neq 3 (Operand.tmp 7) (Operand.tmp 9) t7 t9)) w fun t10 w =>
    k (Env.p e 10 t10) w) := nr (by kernel_rfl)
theorem o78_2_eq : opsW N M G 26 V78 o78_2 k o78_2.toList [] e e w =
    (M (Value.bool false) fun t4 =>
    k (Env.p e 4 t4) w) := nr (by kernel_rfl)
theorem c78_18_s (hw : Cur w) : W3 Try.prog 26 V78 c78_18 Q e w = (opsW (nx Try.prog) mv gdP 26 V78 o78_2 (fun e w => Q .ret e w) o78_2.toList [] e e w) := by rw [(by kernel_rfl : c78_18 = .seq (.region 2 o78_2 false) Code.ret), W3_seq_reg]; simp only [W3_ret, W3_skip, W3_exit, W3_label]
theorem c78_17_v : opV V78 (.tmp 10) = true := by kernel_rfl
theorem c78_17_s (hw : Cur w) : W3 Try.prog 26 V78 c78_17 Q e w = (condP (ev e (.tmp 10)) (W3 Try.prog 26 V78 c78_18 Q e w) (Q .normal e w)) := by rw [(by kernel_rfl : c78_17 = .cond (.tmp 10) c78_18 Code.skip), W3_cond, c78_17_v, cond_true]; simp only [W3_ret, W3_skip, W3_exit, W3_label]
theorem c78_16_s (hw : Cur w) : W3 Try.prog 26 V78 c78_16 Q e w = (opsW (nx Try.prog) mv gdP 26 V78 o78_1 (fun e w => W3 Try.prog 26 V78 c78_17 Q e w) o78_1.toList [] e e w) := by rw [(by kernel_rfl : c78_16 = .seq (.region 1 o78_1 false) c78_17), W3_seq_reg]
theorem c78_1_s (hw : Cur w) : W3 Try.prog 26 V78 c78_1 Q e w = (W3 Try.prog 26 V78 c78_16 (seqQ (fun e w => W3 Try.prog 26 V78 c78_2 Q e w) Q) e w) := by rw [(by kernel_rfl : c78_1 = .seq c78_16 c78_2), W3_seq]
theorem c78_s (hw : Cur w) : W3 Try.prog 26 V78 c78 Q e w = (opsW (nx Try.prog) mv gdP 26 V78 o78_0 (fun e w => W3 Try.prog 26 V78 c78_1 Q e w) o78_0.toList [] e e w) := by rw [(by kernel_rfl : c78 = .seq (.region 0 o78_0 false) c78_1), W3_seq_reg]
theorem call78 {a0 a1 : Value} {w : World} {R : Value → World → Prop} (h : W3 Try.prog 26 V78 c78 (retQ Try.prog [.tmp 4] R) (argE [a0, a1]) w) : CallsN Try.prog 78 [a0, a1] w R :=
  callsN_of_W3 (c := c78) (rs := [.tmp 4]) V78 Try.ntmps78 (by rw [Try.results78]) mixed Try.func78 (by kernel_rfl) (by kernel_rfl) (by kernel_rfl) (by kernel_rfl) (by simp) h
noncomputable def hk78 := And.intro (@o78_0_eq) <| And.intro (@o78_8_eq) <| And.intro (@c78_3_s) <| And.intro (@o78_3_eq) <| And.intro (@o78_5_eq) <| And.intro (@c78_9_s) <| And.intro (@o78_6_eq) <| And.intro (@o78_7_eq) <| And.intro (@c78_13_s) <| And.intro (@c78_12_s) <| And.intro (@c78_11_s) <| And.intro (@c78_10_s) <| And.intro (@c78_8_s) <| And.intro (@o78_4_eq) <| And.intro (@c78_15_s) <| And.intro (@c78_14_s) <| And.intro (@c78_7_s) <| And.intro (@c78_6_s) <| And.intro (@c78_5_s) <| And.intro (@c78_4_s) <| And.intro (@c78_2_s) <| And.intro (@o78_1_eq) <| And.intro (@o78_2_eq) <| And.intro (@c78_18_s) <| And.intro (@c78_17_s) <| And.intro (@c78_16_s) <| And.intro (@c78_1_s) <| @c78_s
-- K78: ↓hk78
/-! ### vouch/vouchref05.SameTexts -/
def V48 : Nat → Bool := fun i => [0, 1, 4, 5, 10, 14, 25].elem i
noncomputable def c48 : Code := (Try.f48.body.getD .skip)
noncomputable def o48_0 : Array Oper := rO (cL c48)
noncomputable def c48_1 : Code := (cR c48)
noncomputable def c48_2 : Code := (cR c48_1)
noncomputable def c48_3 : Code := (cR c48_2)
noncomputable def o48_8 : Array Oper := rO (cL c48_3)
noncomputable def c48_4 : Code := (cL c48_2)
noncomputable def o48_3 : Array Oper := rO (cL c48_4)
noncomputable def c48_5 : Code := (cR c48_4)
noncomputable def c48_6 : Code := (cL c48_5)
noncomputable def c48_7 : Code := (cL c48_6)
noncomputable def c48_8 : Code := (cR c48_7)
noncomputable def c48_9 : Code := (cR c48_8)
noncomputable def o48_5 : Array Oper := rO c48_9
noncomputable def c48_10 : Code := (cL c48_8)
noncomputable def c48_11 : Code := (cL c48_10)
noncomputable def o48_6 : Array Oper := rO (cL c48_11)
noncomputable def c48_12 : Code := (cR c48_11)
noncomputable def c48_13 : Code := (cL c48_12)
noncomputable def o48_7 : Array Oper := rO (cL c48_13)
noncomputable def c48_14 : Code := (cL c48_7)
noncomputable def o48_4 : Array Oper := rO (cL c48_14)
noncomputable def c48_15 : Code := (cR c48_14)
noncomputable def c48_16 : Code := (cL c48_1)
noncomputable def o48_1 : Array Oper := rO (cL c48_16)
noncomputable def c48_17 : Code := (cR c48_16)
noncomputable def c48_18 : Code := (cL c48_17)
noncomputable def o48_2 : Array Oper := rO (cL c48_18)
theorem o48_0_eq : opsW N M G 26 V48 o48_0 k o48_0.toList [] e e w =
    (M (Value.bool false) fun t4 =>
    k (Env.p e 4 t4) w) := nr (by kernel_rfl)
theorem o48_8_eq : opsW N M G 26 V48 o48_8 k o48_8.toList [] e e w =
    (M (Value.bool true) fun t4 =>
    k (Env.p e 4 t4) w) := nr (by kernel_rfl)
theorem c48_3_s (hw : Cur w) : W3 Try.prog 26 V48 c48_3 Q e w = (opsW (nx Try.prog) mv gdP 26 V48 o48_8 (fun e w => Q .ret e w) o48_8.toList [] e e w) := by rw [(by kernel_rfl : c48_3 = .seq (.region 8 o48_8 false) Code.ret), W3_seq_reg]; simp only [W3_ret, W3_skip, W3_exit, W3_label]
theorem o48_3_eq : opsW N M G 26 V48 o48_3 k o48_3.toList [] e e w =
    (M (Value.int IntKind.i64 0) fun t5 =>
    k (Env.p e 5 t5) w) := nr (by kernel_rfl)
theorem o48_5_eq : opsW N M G 26 V48 o48_5 k o48_5.toList [] e e w =
    (M (e 5) fun t15 =>
    N (xv (xbin BinOp.add 3 (Operand.tmp 15) (Operand.const (Value.int IntKind.i64 1)) t15 (Value.int IntKind.i64 1))) w fun t16 w =>
    M t16 fun t5 =>
    k (Env.p e 5 t5) w) := nr (by kernel_rfl)
theorem c48_9_s (hw : Cur w) : W3 Try.prog 26 V48 c48_9 Q e w = (opsW (nx Try.prog) mv gdP 26 V48 o48_5 (fun e w => Q .normal e w) o48_5.toList [] e e w) := by rw [(by kernel_rfl : c48_9 = (.region 5 o48_5 false)), W3_reg]
theorem o48_6_eq : drawGo3 N T3 M G H 26 V48 o48_6 (puK o48_6) k o48_6.size [] (Array.replicate o48_6.size false) [] e e w =
    (M (e 0) fun t17 =>
    M (e 5) fun t18 =>
    T3 (FrX none w) (xv (Instr.indexAt 52 t17 t18)) fun t19 =>
    T3 (FrX (some []) w) (xv (Instr.loadAt 9 t19)) fun t20 =>
    M (e 1) fun t21 =>
    M (e 5) fun t22 =>
    T3 (FrX none w) (xv (Instr.indexAt 52 t21 t22)) fun t23 =>
    T3 (FrX (some []) w) (xv (Instr.loadAt 9 t23)) fun t24 =>
    T3 (FrX none w) (xv (xbin BinOp.neq 9 (Operand.tmp 20) (Operand.tmp 24) t20 t24)) fun t25 =>
    (k (Env.p e 25 t25)) w) := nr (by kernel_rfl)
theorem o48_7_eq : opsW N M G 26 V48 o48_7 k o48_7.toList [] e e w =
    (M (Value.bool false) fun t4 =>
    k (Env.p e 4 t4) w) := nr (by kernel_rfl)
theorem c48_13_s (hw : Cur w) : W3 Try.prog 26 V48 c48_13 Q e w = (opsW (nx Try.prog) mv gdP 26 V48 o48_7 (fun e w => Q .ret e w) o48_7.toList [] e e w) := by rw [(by kernel_rfl : c48_13 = .seq (.region 7 o48_7 false) Code.ret), W3_seq_reg]; simp only [W3_ret, W3_skip, W3_exit, W3_label]
theorem c48_12_v : opV V48 (.tmp 25) = true := by kernel_rfl
theorem c48_12_s (hw : Cur w) : W3 Try.prog 26 V48 c48_12 Q e w = (condP (ev e (.tmp 25)) (W3 Try.prog 26 V48 c48_13 Q e w) (Q .normal e w)) := by rw [(by kernel_rfl : c48_12 = .cond (.tmp 25) c48_13 Code.skip), W3_cond, c48_12_v, cond_true]; simp only [W3_ret, W3_skip, W3_exit, W3_label]
theorem c48_11_s (hw : Cur w) : W3 Try.prog 26 V48 c48_11 Q e w = (drawGo3 (nx Try.prog) (takeP Try.prog) mv gdP gdT 26 V48 o48_6 (puK o48_6) (fun e w => W3 Try.prog 26 V48 c48_12 Q e w) o48_6.size [] (Array.replicate o48_6.size false) [] e e w.drew) := by rw [(by kernel_rfl : c48_11 = .seq (.region 6 o48_6 true) c48_12), W3_seq_regD]
theorem c48_10_s (hw : Cur w) : W3 Try.prog 26 V48 c48_10 Q e w = (W3 Try.prog 26 V48 c48_11 (blockQ 1 Q) e w) := by rw [(by kernel_rfl : c48_10 = .block 1 c48_11), W3_block]
theorem c48_8_s (hw : Cur w) : W3 Try.prog 26 V48 c48_8 Q e w = (W3 Try.prog 26 V48 c48_10 (seqQ (fun e w => W3 Try.prog 26 V48 c48_9 Q e w) Q) e w) := by rw [(by kernel_rfl : c48_8 = .seq c48_10 c48_9), W3_seq]
theorem o48_4_eq : opsW N M G 26 V48 o48_4 k o48_4.toList [] e e w =
    (M (e 5) fun t11 =>
    M (e 0) fun t12 =>
    N (builtin Builtin.len #[52] 3 ([false]).toArray ([t12]).toArray) w fun t13 w =>
    N (xv (xbin BinOp.lss 3 (Operand.tmp 11) (Operand.tmp 13) t11 t13)) w fun t14 w =>
    k (Env.p e 14 t14) w) := nr (by kernel_rfl)
theorem c48_15_v : opV V48 (.tmp 14) = true := by kernel_rfl
theorem c48_15_s (hw : Cur w) : W3 Try.prog 26 V48 c48_15 Q e w = (condP (ev e (.tmp 14)) (Q .normal e w) (Q (.exit 0) e w)) := by rw [(by kernel_rfl : c48_15 = .cond (.tmp 14) Code.skip (Code.exit 0)), W3_cond, c48_15_v, cond_true]; simp only [W3_ret, W3_skip, W3_exit, W3_label]
theorem c48_14_s (hw : Cur w) : W3 Try.prog 26 V48 c48_14 Q e w = (opsW (nx Try.prog) mv gdP 26 V48 o48_4 (fun e w => W3 Try.prog 26 V48 c48_15 Q e w) o48_4.toList [] e e w) := by rw [(by kernel_rfl : c48_14 = .seq (.region 4 o48_4 false) c48_15), W3_seq_reg]
theorem c48_7_s (hw : Cur w) : W3 Try.prog 26 V48 c48_7 Q e w = (W3 Try.prog 26 V48 c48_14 (seqQ (fun e w => W3 Try.prog 26 V48 c48_8 Q e w) Q) e w) := by rw [(by kernel_rfl : c48_7 = .seq c48_14 c48_8), W3_seq]
theorem c48_6_s (hw : Cur w) : W3 Try.prog 26 V48 c48_6 Q e w = (LoopP (fun e w k => W3 Try.prog 26 V48 c48_7 (seqQ k Q) e w) e w) := by rw [(by kernel_rfl : c48_6 = .loop c48_7), W3_loop]
theorem c48_5_s (hw : Cur w) : W3 Try.prog 26 V48 c48_5 Q e w = (W3 Try.prog 26 V48 c48_6 (blockQ 0 Q) e w) := by rw [(by kernel_rfl : c48_5 = .block 0 c48_6), W3_block]
theorem c48_4_s (hw : Cur w) : W3 Try.prog 26 V48 c48_4 Q e w = (opsW (nx Try.prog) mv gdP 26 V48 o48_3 (fun e w => W3 Try.prog 26 V48 c48_5 Q e w) o48_3.toList [] e e w) := by rw [(by kernel_rfl : c48_4 = .seq (.region 3 o48_3 false) c48_5), W3_seq_reg]
theorem c48_2_s (hw : Cur w) : W3 Try.prog 26 V48 c48_2 Q e w = (W3 Try.prog 26 V48 c48_4 (seqQ (fun e w => W3 Try.prog 26 V48 c48_3 Q e w) Q) e w) := by rw [(by kernel_rfl : c48_2 = .seq c48_4 c48_3), W3_seq]
theorem o48_1_eq : opsW N M G 26 V48 o48_1 k o48_1.toList [] e e w =
    (M (e 0) fun t6 =>
    N (builtin Builtin.len #[52] 3 ([false]).toArray ([t6]).toArray) w fun t7 w =>
    M (e 1) fun t8 =>
    N (builtin Builtin.len #[52] 3 ([false]).toArray ([t8]).toArray) w fun t9 w =>
    N (xv (xbin BinOp.neq 3 (Operand.tmp 7) (Operand.tmp 9) t7 t9)) w fun t10 w =>
    k (Env.p e 10 t10) w) := nr (by kernel_rfl)
theorem o48_2_eq : opsW N M G 26 V48 o48_2 k o48_2.toList [] e e w =
    (M (Value.bool false) fun t4 =>
    k (Env.p e 4 t4) w) := nr (by kernel_rfl)
theorem c48_18_s (hw : Cur w) : W3 Try.prog 26 V48 c48_18 Q e w = (opsW (nx Try.prog) mv gdP 26 V48 o48_2 (fun e w => Q .ret e w) o48_2.toList [] e e w) := by rw [(by kernel_rfl : c48_18 = .seq (.region 2 o48_2 false) Code.ret), W3_seq_reg]; simp only [W3_ret, W3_skip, W3_exit, W3_label]
theorem c48_17_v : opV V48 (.tmp 10) = true := by kernel_rfl
theorem c48_17_s (hw : Cur w) : W3 Try.prog 26 V48 c48_17 Q e w = (condP (ev e (.tmp 10)) (W3 Try.prog 26 V48 c48_18 Q e w) (Q .normal e w)) := by rw [(by kernel_rfl : c48_17 = .cond (.tmp 10) c48_18 Code.skip), W3_cond, c48_17_v, cond_true]; simp only [W3_ret, W3_skip, W3_exit, W3_label]
theorem c48_16_s (hw : Cur w) : W3 Try.prog 26 V48 c48_16 Q e w = (opsW (nx Try.prog) mv gdP 26 V48 o48_1 (fun e w => W3 Try.prog 26 V48 c48_17 Q e w) o48_1.toList [] e e w) := by rw [(by kernel_rfl : c48_16 = .seq (.region 1 o48_1 false) c48_17), W3_seq_reg]
theorem c48_1_s (hw : Cur w) : W3 Try.prog 26 V48 c48_1 Q e w = (W3 Try.prog 26 V48 c48_16 (seqQ (fun e w => W3 Try.prog 26 V48 c48_2 Q e w) Q) e w) := by rw [(by kernel_rfl : c48_1 = .seq c48_16 c48_2), W3_seq]
theorem c48_s (hw : Cur w) : W3 Try.prog 26 V48 c48 Q e w = (opsW (nx Try.prog) mv gdP 26 V48 o48_0 (fun e w => W3 Try.prog 26 V48 c48_1 Q e w) o48_0.toList [] e e w) := by rw [(by kernel_rfl : c48 = .seq (.region 0 o48_0 false) c48_1), W3_seq_reg]
theorem call48 {a0 a1 : Value} {w : World} {R : Value → World → Prop} (h : W3 Try.prog 26 V48 c48 (retQ Try.prog [.tmp 4] R) (argE [a0, a1]) w) : CallsN Try.prog 48 [a0, a1] w R :=
  callsN_of_W3 (c := c48) (rs := [.tmp 4]) V48 Try.ntmps48 (by rw [Try.results48]) mixed Try.func48 (by kernel_rfl) (by kernel_rfl) (by kernel_rfl) (by kernel_rfl) (by simp) h
noncomputable def hk48 := And.intro (@o48_0_eq) <| And.intro (@o48_8_eq) <| And.intro (@c48_3_s) <| And.intro (@o48_3_eq) <| And.intro (@o48_5_eq) <| And.intro (@c48_9_s) <| And.intro (@o48_6_eq) <| And.intro (@o48_7_eq) <| And.intro (@c48_13_s) <| And.intro (@c48_12_s) <| And.intro (@c48_11_s) <| And.intro (@c48_10_s) <| And.intro (@c48_8_s) <| And.intro (@o48_4_eq) <| And.intro (@c48_15_s) <| And.intro (@c48_14_s) <| And.intro (@c48_7_s) <| And.intro (@c48_6_s) <| And.intro (@c48_5_s) <| And.intro (@c48_4_s) <| And.intro (@c48_2_s) <| And.intro (@o48_1_eq) <| And.intro (@o48_2_eq) <| And.intro (@c48_18_s) <| And.intro (@c48_17_s) <| And.intro (@c48_16_s) <| And.intro (@c48_1_s) <| @c48_s
-- K48: ↓hk48
/-! ### vouch/vouchlaw05.step -/
def V47 : Nat → Bool := fun i => [0, 1, 2, 5, 6, 7, 8, 9, 10, 11, 12, 13, 14, 17, 18, 51].elem i
noncomputable def c47 : Code := (Try.f47.body.getD .skip)
noncomputable def o47_0 : Array Oper := rO (cL c47)
noncomputable def c47_1 : Code := (cR c47)
noncomputable def c47_2 : Code := (cR c47_1)
noncomputable def o47_10 : Array Oper := rO (cL c47_2)
noncomputable def c47_3 : Code := (cL c47_1)
noncomputable def o47_1 : Array Oper := rO (cL c47_3)
noncomputable def c47_4 : Code := (cR c47_3)
noncomputable def c47_5 : Code := (cL c47_4)
noncomputable def o47_2 : Array Oper := rO (cL c47_5)
noncomputable def c47_6 : Code := (cR c47_5)
noncomputable def c47_7 : Code := (cL c47_6)
noncomputable def o47_3 : Array Oper := rO (cL c47_7)
noncomputable def c47_8 : Code := (cR c47_7)
noncomputable def o47_4 : Array Oper := rO (cL c47_8)
noncomputable def c47_9 : Code := (cR c47_8)
noncomputable def o47_5 : Array Oper := rO (cL c47_9)
noncomputable def c47_10 : Code := (cR c47_6)
noncomputable def o47_6 : Array Oper := rO (cL c47_10)
noncomputable def c47_11 : Code := (cR c47_10)
noncomputable def c47_12 : Code := (cL c47_11)
noncomputable def o47_7 : Array Oper := rO (cL c47_12)
noncomputable def c47_13 : Code := (cR c47_12)
noncomputable def o47_8 : Array Oper := rO (cL c47_13)
noncomputable def c47_14 : Code := (cR c47_13)
noncomputable def o47_9 : Array Oper := rO (cL c47_14)
theorem o47_0_eq : opsW N M G 99 V47 o47_0 k o47_0.toList [] e e w =
    (N (xv (Instr.box 95 (e 2))) w fun t5 w =>
    M (Value.bool false) fun t6 =>
    k (Env.p (Env.p e 5 t5) 6 t6) w) := nr (by kernel_rfl)
theorem o47_10_eq : drawGo3 N T3 M G H 99 V47 o47_10 (puK o47_10) k o47_10.size [] (Array.replicate o47_10.size false) [] e e w =
    (M (e 0) fun t79 =>
    T3 (FrX none w) (xv (Instr.fieldAt 95 (e 5) 2)) fun t80 =>
    T3 (FrX (some []) w) (xv (Instr.loadAt 9 t80)) fun t81 =>
    M (e 1) fun t83 =>
    T3 (FrX none w) (xv (Instr.fieldAt 95 (e 5) 2)) fun t84 =>
    T3 (FrX (some []) w) (xv (Instr.loadAt 9 t84)) fun t85 =>
    N (xcall (Value.func (Fn.func 19) #[] #[]) [t79, t81]) w fun t82 w3 =>
    FrX (some []) w w3 ∧ (N (xcall (Value.func (Fn.func 77) #[] #[]) [t83, t85]) w3 fun t86 w7 =>
    T3 (FrX none w7) (xv (xbin BinOp.eql 2 (Operand.tmp 82) (Operand.tmp 86) t82 t86)) fun t87 =>
    M t87 fun t88 =>
    H (isB t88 true) (fun K => M (e 0) K) (fun t89 =>
    H (isB t88 true) (fun K => T3 (FrX none w7) (xv (Instr.fieldAt 95 (e 5) 2)) K) (fun t90 =>
    H (isB t88 true) (fun K => T3 (FrX (some []) w7) (xv (Instr.loadAt 9 t90)) K) (fun t91 =>
    H (isB t88 true) (fun K => M (e 1) K) (fun t93 =>
    H (isB t88 true) (fun K => T3 (FrX none w7) (xv (Instr.fieldAt 95 (e 5) 2)) K) (fun t94 =>
    H (isB t88 true) (fun K => T3 (FrX (some []) w7) (xv (Instr.loadAt 9 t94)) K) (fun t95 =>
    G (isB t88 true) (fun K => N (xcall (Value.func (Fn.func 24) #[] #[]) [t89, t91]) w7 K) (fun t92 w13 =>
    FrX (some []) w7 w13 ∧ (G (isB t88 true) (fun K => N (xcall (Value.func (Fn.func 79) #[] #[]) [t93, t95]) w13 K) (fun t96 w17 =>
    G (isB t88 true) (fun K => N (xcall (Value.func (Fn.func 78) #[] #[]) [t92, t96]) w17 K) (fun t97 w18 =>
    T3 (FrX none w18) (xpick t88 t97 (Value.bool false)) fun t98 =>
    M t98 fun t6 =>
    (k (Env.p e 6 t6)) w18) w17) w13)) w7)))))))) := nr (by kernel_rfl)
theorem c47_2_s (hw : Cur w) : W3 Try.prog 99 V47 c47_2 Q e w = (drawGo3 (nx Try.prog) (takeP Try.prog) mv gdP gdT 99 V47 o47_10 (puK o47_10) (fun e w => Q .ret e w) o47_10.size [] (Array.replicate o47_10.size false) [] e e w.drew) := by rw [(by kernel_rfl : c47_2 = .seq (.region 10 o47_10 true) Code.ret), W3_seq_regD]; simp only [W3_ret, W3_skip, W3_exit, W3_label]
theorem o47_1_eq : opsW N M G 99 V47 o47_1 k o47_1.toList [] e e w =
    (N (xv (Instr.fieldAt 95 (e 5) 0)) w fun t15 w =>
    N (xv (Instr.loadAt 5 t15)) w fun t16 w =>
    N (xv (xbin BinOp.rem 5 (Operand.tmp 16) (Operand.const (Value.int IntKind.u8 3)) t16 (Value.int IntKind.u8 3))) w fun t17 w =>
    k (Env.p e 17 t17) w) := nr (by kernel_rfl)
theorem o47_2_eq : opsW N M G 99 V47 o47_2 k o47_2.toList [] e e w =
    (N (xv (xbin BinOp.eql 5 (Operand.tmp 17) (Operand.const (Value.int IntKind.u8 0)) (e 17) (Value.int IntKind.u8 0))) w fun t19 w =>
    M t19 fun t18 =>
    k (Env.p e 18 t18) w) := nr (by kernel_rfl)
theorem o47_3_eq : opsW N M G 99 V47 o47_3 k o47_3.toList [] e e w =
    (M (e 0) fun t21 =>
    N (xv (Instr.fieldAt 95 (e 5) 1)) w fun t22 w =>
    N (xv (Instr.loadAt 40 t22)) w fun t23 w =>
    N (xcall (Value.func (Fn.func 21) #[] #[]) [t21, t23]) w fun t24 w =>
    M t24 fun t20 =>
    N (xv (Instr.extract t20 0)) w fun t25 w =>
    N (xv (Instr.extract t20 1)) w fun t26 w =>
    M t25 fun t7 =>
    M t26 fun t8 =>
    k (Env.p (Env.p e 7 t7) 8 t8) w) := nr (by kernel_rfl)
theorem o47_4_eq : opsW N M G 99 V47 o47_4 k o47_4.toList [] e e w =
    (M (e 1) fun t28 =>
    N (xv (Instr.fieldAt 95 (e 5) 1)) w fun t29 w =>
    N (xv (Instr.loadAt 40 t29)) w fun t30 w =>
    N (xcall (Value.func (Fn.func 51) #[] #[]) [t28, t30]) w fun t31 w =>
    M t31 fun t27 =>
    N (xv (Instr.extract t27 0)) w fun t32 w =>
    N (xv (Instr.extract t27 1)) w fun t33 w =>
    M t32 fun t9 =>
    M t33 fun t10 =>
    k (Env.p (Env.p e 9 t9) 10 t10) w) := nr (by kernel_rfl)
theorem o47_5_eq : drawGo3 N T3 M G H 99 V47 o47_5 (puK o47_5) k o47_5.size [] (Array.replicate o47_5.size false) [] e e w =
    (M (e 7) fun t34 =>
    M (e 9) fun t35 =>
    T3 (FrX none w) (xv (xbin BinOp.eql 2 (Operand.tmp 34) (Operand.tmp 35) t34 t35)) fun t36 =>
    M t36 fun t37 =>
    H (isB t37 true) (fun K => M (e 8) K) (fun t38 =>
    H (isB t37 true) (fun K => M (e 10) K) (fun t39 =>
    H (isB t37 true) (fun K => T3 (FrX none w) (xv (xbin BinOp.eql 3 (Operand.tmp 38) (Operand.tmp 39) t38 t39)) K) (fun t40 =>
    T3 (FrX none w) (xpick t37 t40 (Value.bool false)) fun t41 =>
    M t41 fun t42 =>
    H (isB t42 true) (fun K => M (e 0) K) (fun t43 =>
    H (isB t42 true) (fun K => M (e 1) K) (fun t45 =>
    H (isB t42 true) (fun K => T3 (FrX none w) (xnil t45) K) (fun t46 =>
    H (isB t42 true) (fun K => T3 (FrX none w) (xv (Instr.fieldAt 104 t46 2)) K) (fun t47 =>
    H (isB t42 true) (fun K => T3 (FrX (some []) w) (xv (Instr.loadAt 2 t47)) K) (fun t48 =>
    G (isB t42 true) (fun K => N (xcall (Value.func (Fn.func 22) #[] #[]) [t43]) w K) (fun t44 w10 =>
    FrX (some []) w w10 ∧ (H (isB t42 true) (fun K => T3 (FrX none w10) (xv (xbin BinOp.eql 2 (Operand.tmp 44) (Operand.tmp 48) t44 t48)) K) (fun t49 =>
    T3 (FrX none w10) (xpick t42 t49 (Value.bool false)) fun t50 =>
    M t50 fun t6 =>
    (k (Env.p e 6 t6)) w10))) w))))))))) := nr (by kernel_rfl)
theorem c47_9_s (hw : Cur w) : W3 Try.prog 99 V47 c47_9 Q e w = (drawGo3 (nx Try.prog) (takeP Try.prog) mv gdP gdT 99 V47 o47_5 (puK o47_5) (fun e w => Q .ret e w) o47_5.size [] (Array.replicate o47_5.size false) [] e e w.drew) := by rw [(by kernel_rfl : c47_9 = .seq (.region 5 o47_5 true) Code.ret), W3_seq_regD]; simp only [W3_ret, W3_skip, W3_exit, W3_label]
theorem c47_8_s (hw : Cur w) : W3 Try.prog 99 V47 c47_8 Q e w = (opsW (nx Try.prog) mv gdP 99 V47 o47_4 (fun e w => W3 Try.prog 99 V47 c47_9 Q e w) o47_4.toList [] e e w) := by rw [(by kernel_rfl : c47_8 = .seq (.region 4 o47_4 false) c47_9), W3_seq_reg]
theorem c47_7_s (hw : Cur w) : W3 Try.prog 99 V47 c47_7 Q e w = (opsW (nx Try.prog) mv gdP 99 V47 o47_3 (fun e w => W3 Try.prog 99 V47 c47_8 Q e w) o47_3.toList [] e e w) := by rw [(by kernel_rfl : c47_7 = .seq (.region 3 o47_3 false) c47_8), W3_seq_reg]
theorem o47_6_eq : opsW N M G 99 V47 o47_6 k o47_6.toList [] e e w =
    (N (xv (xbin BinOp.eql 5 (Operand.tmp 17) (Operand.const (Value.int IntKind.u8 1)) (e 17) (Value.int IntKind.u8 1))) w fun t52 w =>
    M t52 fun t51 =>
    k (Env.p e 51 t51) w) := nr (by kernel_rfl)
theorem o47_7_eq : opsW N M G 99 V47 o47_7 k o47_7.toList [] e e w =
    (M (e 0) fun t54 =>
    N (xv (Instr.fieldAt 95 (e 5) 2)) w fun t55 w =>
    N (xv (Instr.loadAt 9 t55)) w fun t56 w =>
    N (xv (Instr.fieldAt 95 (e 5) 3)) w fun t57 w =>
    N (xv (Instr.loadAt 2 t57)) w fun t58 w =>
    N (xcall (Value.func (Fn.func 18) #[] #[]) [t54, t56, t58]) w fun t59 w =>
    M t59 fun t53 =>
    N (xv (Instr.extract t53 0)) w fun t60 w =>
    N (xv (Instr.extract t53 1)) w fun t61 w =>
    N (xv (Instr.alloc 31 true (.tuple #[]))) w fun t11 w =>
    N (xu (Instr.storeAt 31 t11 t60)) w fun _ w =>
    M t61 fun t12 =>
    k (Env.p (Env.p e 11 t11) 12 t12) w) := nr (by kernel_rfl)
theorem o47_8_eq : opsW N M G 99 V47 o47_8 k o47_8.toList [] e e w =
    (M (e 1) fun t63 =>
    N (xv (Instr.fieldAt 95 (e 5) 2)) w fun t64 w =>
    N (xv (Instr.loadAt 9 t64)) w fun t65 w =>
    N (xv (Instr.fieldAt 95 (e 5) 3)) w fun t66 w =>
    N (xv (Instr.loadAt 2 t66)) w fun t67 w =>
    N (xcall (Value.func (Fn.func 76) #[] #[]) [t63, t65, t67]) w fun t68 w =>
    M t68 fun t62 =>
    N (xv (Instr.extract t62 0)) w fun t69 w =>
    N (xv (Instr.extract t62 1)) w fun t70 w =>
    N (xv (Instr.alloc 31 true (.tuple #[]))) w fun t13 w =>
    N (xu (Instr.storeAt 31 t13 t69)) w fun _ w =>
    M t70 fun t14 =>
    k (Env.p (Env.p e 13 t13) 14 t14) w) := nr (by kernel_rfl)
theorem o47_9_eq : opsW N M G 99 V47 o47_9 k o47_9.toList [] e e w =
    (N (xv (Instr.loadAt 31 (e 11))) w fun t71 w =>
    N (xv (Instr.loadAt 31 (e 13))) w fun t72 w =>
    N (xv (xbin BinOp.eql 31 (Operand.tmp 71) (Operand.tmp 72) t71 t72)) w fun t73 w =>
    M t73 fun t74 =>
    G (isB t74 true) (fun K => M (e 12) fun v => K v w) (fun t75 w =>
    G (isB t74 true) (fun K => M (e 14) fun v => K v w) (fun t76 w =>
    G (isB t74 true) (fun K => N (xv (xbin BinOp.eql 3 (Operand.tmp 75) (Operand.tmp 76) t75 t76)) w K) (fun t77 w =>
    N (xpick t74 t77 (Value.bool false)) w fun t78 w =>
    M t78 fun t6 =>
    k (Env.p e 6 t6) w) w) w) w) := nr (by kernel_rfl)
theorem c47_14_s (hw : Cur w) : W3 Try.prog 99 V47 c47_14 Q e w = (opsW (nx Try.prog) mv gdP 99 V47 o47_9 (fun e w => Q .ret e w) o47_9.toList [] e e w) := by rw [(by kernel_rfl : c47_14 = .seq (.region 9 o47_9 false) Code.ret), W3_seq_reg]; simp only [W3_ret, W3_skip, W3_exit, W3_label]
theorem c47_13_s (hw : Cur w) : W3 Try.prog 99 V47 c47_13 Q e w = (opsW (nx Try.prog) mv gdP 99 V47 o47_8 (fun e w => W3 Try.prog 99 V47 c47_14 Q e w) o47_8.toList [] e e w) := by rw [(by kernel_rfl : c47_13 = .seq (.region 8 o47_8 false) c47_14), W3_seq_reg]
theorem c47_12_s (hw : Cur w) : W3 Try.prog 99 V47 c47_12 Q e w = (opsW (nx Try.prog) mv gdP 99 V47 o47_7 (fun e w => W3 Try.prog 99 V47 c47_13 Q e w) o47_7.toList [] e e w) := by rw [(by kernel_rfl : c47_12 = .seq (.region 7 o47_7 false) c47_13), W3_seq_reg]
theorem c47_11_v : opV V47 (.tmp 51) = true := by kernel_rfl
theorem c47_11_s (hw : Cur w) : W3 Try.prog 99 V47 c47_11 Q e w = (condP (ev e (.tmp 51)) (W3 Try.prog 99 V47 c47_12 Q e w) (Q .normal e w)) := by rw [(by kernel_rfl : c47_11 = .cond (.tmp 51) c47_12 Code.skip), W3_cond, c47_11_v, cond_true]; simp only [W3_ret, W3_skip, W3_exit, W3_label]
theorem c47_10_s (hw : Cur w) : W3 Try.prog 99 V47 c47_10 Q e w = (opsW (nx Try.prog) mv gdP 99 V47 o47_6 (fun e w => W3 Try.prog 99 V47 c47_11 Q e w) o47_6.toList [] e e w) := by rw [(by kernel_rfl : c47_10 = .seq (.region 6 o47_6 false) c47_11), W3_seq_reg]
theorem c47_6_v : opV V47 (.tmp 18) = true := by kernel_rfl
theorem c47_6_s (hw : Cur w) : W3 Try.prog 99 V47 c47_6 Q e w = (condP (ev e (.tmp 18)) (W3 Try.prog 99 V47 c47_7 Q e w) (W3 Try.prog 99 V47 c47_10 Q e w)) := by rw [(by kernel_rfl : c47_6 = .cond (.tmp 18) c47_7 c47_10), W3_cond, c47_6_v, cond_true]
theorem c47_5_s (hw : Cur w) : W3 Try.prog 99 V47 c47_5 Q e w = (opsW (nx Try.prog) mv gdP 99 V47 o47_2 (fun e w => W3 Try.prog 99 V47 c47_6 Q e w) o47_2.toList [] e e w) := by rw [(by kernel_rfl : c47_5 = .seq (.region 2 o47_2 false) c47_6), W3_seq_reg]
theorem c47_4_s (hw : Cur w) : W3 Try.prog 99 V47 c47_4 Q e w = (W3 Try.prog 99 V47 c47_5 (blockQ 0 Q) e w) := by rw [(by kernel_rfl : c47_4 = .block 0 c47_5), W3_block]
theorem c47_3_s (hw : Cur w) : W3 Try.prog 99 V47 c47_3 Q e w = (opsW (nx Try.prog) mv gdP 99 V47 o47_1 (fun e w => W3 Try.prog 99 V47 c47_4 Q e w) o47_1.toList [] e e w) := by rw [(by kernel_rfl : c47_3 = .seq (.region 1 o47_1 false) c47_4), W3_seq_reg]
theorem c47_1_s (hw : Cur w) : W3 Try.prog 99 V47 c47_1 Q e w = (W3 Try.prog 99 V47 c47_3 (seqQ (fun e w => W3 Try.prog 99 V47 c47_2 Q e w) Q) e w) := by rw [(by kernel_rfl : c47_1 = .seq c47_3 c47_2), W3_seq]
theorem c47_s (hw : Cur w) : W3 Try.prog 99 V47 c47 Q e w = (opsW (nx Try.prog) mv gdP 99 V47 o47_0 (fun e w => W3 Try.prog 99 V47 c47_1 Q e w) o47_0.toList [] e e w) := by rw [(by kernel_rfl : c47 = .seq (.region 0 o47_0 false) c47_1), W3_seq_reg]
theorem call47 {a0 a1 a2 : Value} {w : World} {R : Value → World → Prop} (h : W3 Try.prog 99 V47 c47 (retQ Try.prog [.tmp 6] R) (argE [a0, a1, a2]) w) : CallsN Try.prog 47 [a0, a1, a2] w R :=
  callsN_of_W3 (c := c47) (rs := [.tmp 6]) V47 Try.ntmps47 (by rw [Try.results47]) mixed Try.func47 (by kernel_rfl) (by kernel_rfl) (by kernel_rfl) (by kernel_rfl) (by simp) h
noncomputable def hk47 := And.intro (@o47_0_eq) <| And.intro (@o47_10_eq) <| And.intro (@c47_2_s) <| And.intro (@o47_1_eq) <| And.intro (@o47_2_eq) <| And.intro (@o47_3_eq) <| And.intro (@o47_4_eq) <| And.intro (@o47_5_eq) <| And.intro (@c47_9_s) <| And.intro (@c47_8_s) <| And.intro (@c47_7_s) <| And.intro (@o47_6_eq) <| And.intro (@o47_7_eq) <| And.intro (@o47_8_eq) <| And.intro (@o47_9_eq) <| And.intro (@c47_14_s) <| And.intro (@c47_13_s) <| And.intro (@c47_12_s) <| And.intro (@c47_11_s) <| And.intro (@c47_10_s) <| And.intro (@c47_6_s) <| And.intro (@c47_5_s) <| And.intro (@c47_4_s) <| And.intro (@c47_3_s) <| And.intro (@c47_1_s) <| @c47_s
-- K47: ↓hk47
/-! ### vouch/vouchlaw05.StorePlays -/
def V12 : Nat → Bool := fun i => [0, 1, 4, 5, 6, 7, 9, 15, 19, 29].elem i
noncomputable def c12 : Code := (Try.f12.body.getD .skip)
noncomputable def o12_0 : Array Oper := rO (cL c12)
noncomputable def c12_1 : Code := (cR c12)
noncomputable def c12_2 : Code := (cR c12_1)
noncomputable def o12_3 : Array Oper := rO (cL c12_2)
noncomputable def c12_3 : Code := (cR c12_2)
noncomputable def c12_4 : Code := (cR c12_3)
noncomputable def c12_5 : Code := (cR c12_4)
noncomputable def o12_11 : Array Oper := rO (cL c12_5)
noncomputable def c12_6 : Code := (cL c12_4)
noncomputable def o12_6 : Array Oper := rO (cL c12_6)
noncomputable def c12_7 : Code := (cR c12_6)
noncomputable def c12_8 : Code := (cL c12_7)
noncomputable def c12_9 : Code := (cL c12_8)
noncomputable def c12_10 : Code := (cR c12_9)
noncomputable def c12_11 : Code := (cR c12_10)
noncomputable def o12_8 : Array Oper := rO c12_11
noncomputable def c12_12 : Code := (cL c12_10)
noncomputable def c12_13 : Code := (cL c12_12)
noncomputable def o12_9 : Array Oper := rO (cL c12_13)
noncomputable def c12_14 : Code := (cR c12_13)
noncomputable def c12_15 : Code := (cL c12_14)
noncomputable def o12_10 : Array Oper := rO (cL c12_15)
noncomputable def c12_16 : Code := (cL c12_9)
noncomputable def o12_7 : Array Oper := rO (cL c12_16)
noncomputable def c12_17 : Code := (cR c12_16)
noncomputable def c12_18 : Code := (cL c12_3)
noncomputable def o12_4 : Array Oper := rO (cL c12_18)
noncomputable def c12_19 : Code := (cR c12_18)
noncomputable def c12_20 : Code := (cL c12_19)
noncomputable def o12_5 : Array Oper := rO (cL c12_20)
noncomputable def c12_21 : Code := (cL c12_1)
noncomputable def o12_1 : Array Oper := rO (cL c12_21)
noncomputable def c12_22 : Code := (cR c12_21)
noncomputable def c12_23 : Code := (cL c12_22)
noncomputable def o12_2 : Array Oper := rO (cL c12_23)
theorem o12_0_eq : opsW N M G 35 V12 o12_0 k o12_0.toList [] e e w =
    (M (Value.bool false) fun t4 =>
    k (Env.p e 4 t4) w) := nr (by kernel_rfl)
theorem o12_3_eq : opsW N M G 35 V12 o12_3 k o12_3.toList [] e e w =
    (M (e 0) fun t10 =>
    N (xcall (Value.func (Fn.func 16) #[] #[]) [t10]) w fun t11 w =>
    M (e 0) fun t12 =>
    N (xcall (Value.func (Fn.func 46) #[] #[]) [t12]) w fun t13 w =>
    M t11 fun t5 =>
    M t13 fun t6 =>
    k (Env.p (Env.p e 5 t5) 6 t6) w) := nr (by kernel_rfl)
theorem o12_11_eq : opsW N M G 35 V12 o12_11 k o12_11.toList [] e e w =
    (M (e 5) fun t30 =>
    N (xcall (Value.func (Fn.func 49) #[] #[]) [t30]) w fun t31 w =>
    M (e 6) fun t32 =>
    N (xcall (Value.func (Fn.func 50) #[] #[]) [t32]) w fun t33 w =>
    N (xcall (Value.func (Fn.func 48) #[] #[]) [t31, t33]) w fun t34 w =>
    M t34 fun t4 =>
    k (Env.p e 4 t4) w) := nr (by kernel_rfl)
theorem c12_5_s (hw : Cur w) : W3 Try.prog 35 V12 c12_5 Q e w = (opsW (nx Try.prog) mv gdP 35 V12 o12_11 (fun e w => Q .ret e w) o12_11.toList [] e e w) := by rw [(by kernel_rfl : c12_5 = .seq (.region 11 o12_11 false) Code.ret), W3_seq_reg]; simp only [W3_ret, W3_skip, W3_exit, W3_label]
theorem o12_6_eq : opsW N M G 35 V12 o12_6 k o12_6.toList [] e e w =
    (M (Value.int IntKind.i64 0) fun t7 =>
    k (Env.p e 7 t7) w) := nr (by kernel_rfl)
theorem o12_8_eq : opsW N M G 35 V12 o12_8 k o12_8.toList [] e e w =
    (M (e 7) fun t20 =>
    N (xv (xbin BinOp.add 3 (Operand.tmp 20) (Operand.const (Value.int IntKind.i64 1)) t20 (Value.int IntKind.i64 1))) w fun t21 w =>
    M t21 fun t7 =>
    k (Env.p e 7 t7) w) := nr (by kernel_rfl)
theorem c12_11_s (hw : Cur w) : W3 Try.prog 35 V12 c12_11 Q e w = (opsW (nx Try.prog) mv gdP 35 V12 o12_8 (fun e w => Q .normal e w) o12_8.toList [] e e w) := by rw [(by kernel_rfl : c12_11 = (.region 8 o12_8 false)), W3_reg]
theorem o12_9_eq : opsW N M G 35 V12 o12_9 k o12_9.toList [] e e w =
    (M (e 5) fun t22 =>
    M (e 6) fun t23 =>
    M (e 1) fun t24 =>
    M (e 7) fun t25 =>
    N (xv (Instr.indexAt 90 t24 t25)) w fun t26 w =>
    N (xv (Instr.loadAt 95 t26)) w fun t27 w =>
    N (xcall (Value.func (Fn.func 47) #[] #[]) [t22, t23, t27]) w fun t28 w =>
    N (xv (Op.unary UnOp.not t28)) w fun t29 w =>
    k (Env.p e 29 t29) w) := nr (by kernel_rfl)
theorem o12_10_eq : opsW N M G 35 V12 o12_10 k o12_10.toList [] e e w =
    (M (Value.bool false) fun t4 =>
    k (Env.p e 4 t4) w) := nr (by kernel_rfl)
theorem c12_15_s (hw : Cur w) : W3 Try.prog 35 V12 c12_15 Q e w = (opsW (nx Try.prog) mv gdP 35 V12 o12_10 (fun e w => Q .ret e w) o12_10.toList [] e e w) := by rw [(by kernel_rfl : c12_15 = .seq (.region 10 o12_10 false) Code.ret), W3_seq_reg]; simp only [W3_ret, W3_skip, W3_exit, W3_label]
theorem c12_14_v : opV V12 (.tmp 29) = true := by kernel_rfl
theorem c12_14_s (hw : Cur w) : W3 Try.prog 35 V12 c12_14 Q e w = (condP (ev e (.tmp 29)) (W3 Try.prog 35 V12 c12_15 Q e w) (Q .normal e w)) := by rw [(by kernel_rfl : c12_14 = .cond (.tmp 29) c12_15 Code.skip), W3_cond, c12_14_v, cond_true]; simp only [W3_ret, W3_skip, W3_exit, W3_label]
theorem c12_13_s (hw : Cur w) : W3 Try.prog 35 V12 c12_13 Q e w = (opsW (nx Try.prog) mv gdP 35 V12 o12_9 (fun e w => W3 Try.prog 35 V12 c12_14 Q e w) o12_9.toList [] e e w) := by rw [(by kernel_rfl : c12_13 = .seq (.region 9 o12_9 false) c12_14), W3_seq_reg]
theorem c12_12_s (hw : Cur w) : W3 Try.prog 35 V12 c12_12 Q e w = (W3 Try.prog 35 V12 c12_13 (blockQ 1 Q) e w) := by rw [(by kernel_rfl : c12_12 = .block 1 c12_13), W3_block]
theorem c12_10_s (hw : Cur w) : W3 Try.prog 35 V12 c12_10 Q e w = (W3 Try.prog 35 V12 c12_12 (seqQ (fun e w => W3 Try.prog 35 V12 c12_11 Q e w) Q) e w) := by rw [(by kernel_rfl : c12_10 = .seq c12_12 c12_11), W3_seq]
theorem o12_7_eq : opsW N M G 35 V12 o12_7 k o12_7.toList [] e e w =
    (M (e 7) fun t16 =>
    M (e 1) fun t17 =>
    N (builtin Builtin.len #[90] 3 ([false]).toArray ([t17]).toArray) w fun t18 w =>
    N (xv (xbin BinOp.lss 3 (Operand.tmp 16) (Operand.tmp 18) t16 t18)) w fun t19 w =>
    k (Env.p e 19 t19) w) := nr (by kernel_rfl)
theorem c12_17_v : opV V12 (.tmp 19) = true := by kernel_rfl
theorem c12_17_s (hw : Cur w) : W3 Try.prog 35 V12 c12_17 Q e w = (condP (ev e (.tmp 19)) (Q .normal e w) (Q (.exit 0) e w)) := by rw [(by kernel_rfl : c12_17 = .cond (.tmp 19) Code.skip (Code.exit 0)), W3_cond, c12_17_v, cond_true]; simp only [W3_ret, W3_skip, W3_exit, W3_label]
theorem c12_16_s (hw : Cur w) : W3 Try.prog 35 V12 c12_16 Q e w = (opsW (nx Try.prog) mv gdP 35 V12 o12_7 (fun e w => W3 Try.prog 35 V12 c12_17 Q e w) o12_7.toList [] e e w) := by rw [(by kernel_rfl : c12_16 = .seq (.region 7 o12_7 false) c12_17), W3_seq_reg]
theorem c12_9_s (hw : Cur w) : W3 Try.prog 35 V12 c12_9 Q e w = (W3 Try.prog 35 V12 c12_16 (seqQ (fun e w => W3 Try.prog 35 V12 c12_10 Q e w) Q) e w) := by rw [(by kernel_rfl : c12_9 = .seq c12_16 c12_10), W3_seq]
theorem c12_8_s (hw : Cur w) : W3 Try.prog 35 V12 c12_8 Q e w = (LoopP (fun e w k => W3 Try.prog 35 V12 c12_9 (seqQ k Q) e w) e w) := by rw [(by kernel_rfl : c12_8 = .loop c12_9), W3_loop]
theorem c12_7_s (hw : Cur w) : W3 Try.prog 35 V12 c12_7 Q e w = (W3 Try.prog 35 V12 c12_8 (blockQ 0 Q) e w) := by rw [(by kernel_rfl : c12_7 = .block 0 c12_8), W3_block]
theorem c12_6_s (hw : Cur w) : W3 Try.prog 35 V12 c12_6 Q e w = (opsW (nx Try.prog) mv gdP 35 V12 o12_6 (fun e w => W3 Try.prog 35 V12 c12_7 Q e w) o12_6.toList [] e e w) := by rw [(by kernel_rfl : c12_6 = .seq (.region 6 o12_6 false) c12_7), W3_seq_reg]
theorem c12_4_s (hw : Cur w) : W3 Try.prog 35 V12 c12_4 Q e w = (W3 Try.prog 35 V12 c12_6 (seqQ (fun e w => W3 Try.prog 35 V12 c12_5 Q e w) Q) e w) := by rw [(by kernel_rfl : c12_4 = .seq c12_6 c12_5), W3_seq]
theorem o12_4_eq : opsW N M G 35 V12 o12_4 k o12_4.toList [] e e w =
    (M (e 5) fun t14 =>
    N (xv (xbin BinOp.eql 24 (Operand.tmp 14) (Operand.const (Value.pointer none)) t14 (Value.pointer none))) w fun t15 w =>
    k (Env.p e 15 t15) w) := nr (by kernel_rfl)
theorem o12_5_eq : opsW N M G 35 V12 o12_5 k o12_5.toList [] e e w =
    (M (Value.bool false) fun t4 =>
    k (Env.p e 4 t4) w) := nr (by kernel_rfl)
theorem c12_20_s (hw : Cur w) : W3 Try.prog 35 V12 c12_20 Q e w = (opsW (nx Try.prog) mv gdP 35 V12 o12_5 (fun e w => Q .ret e w) o12_5.toList [] e e w) := by rw [(by kernel_rfl : c12_20 = .seq (.region 5 o12_5 false) Code.ret), W3_seq_reg]; simp only [W3_ret, W3_skip, W3_exit, W3_label]
theorem c12_19_v : opV V12 (.tmp 15) = true := by kernel_rfl
theorem c12_19_s (hw : Cur w) : W3 Try.prog 35 V12 c12_19 Q e w = (condP (ev e (.tmp 15)) (W3 Try.prog 35 V12 c12_20 Q e w) (Q .normal e w)) := by rw [(by kernel_rfl : c12_19 = .cond (.tmp 15) c12_20 Code.skip), W3_cond, c12_19_v, cond_true]; simp only [W3_ret, W3_skip, W3_exit, W3_label]
theorem c12_18_s (hw : Cur w) : W3 Try.prog 35 V12 c12_18 Q e w = (opsW (nx Try.prog) mv gdP 35 V12 o12_4 (fun e w => W3 Try.prog 35 V12 c12_19 Q e w) o12_4.toList [] e e w) := by rw [(by kernel_rfl : c12_18 = .seq (.region 4 o12_4 false) c12_19), W3_seq_reg]
theorem c12_3_s (hw : Cur w) : W3 Try.prog 35 V12 c12_3 Q e w = (W3 Try.prog 35 V12 c12_18 (seqQ (fun e w => W3 Try.prog 35 V12 c12_4 Q e w) Q) e w) := by rw [(by kernel_rfl : c12_3 = .seq c12_18 c12_4), W3_seq]
theorem c12_2_s (hw : Cur w) : W3 Try.prog 35 V12 c12_2 Q e w = (opsW (nx Try.prog) mv gdP 35 V12 o12_3 (fun e w => W3 Try.prog 35 V12 c12_3 Q e w) o12_3.toList [] e e w) := by rw [(by kernel_rfl : c12_2 = .seq (.region 3 o12_3 false) c12_3), W3_seq_reg]
theorem o12_1_eq : opsW N M G 35 V12 o12_1 k o12_1.toList [] e e w =
    (N (xcall (Value.func (Fn.func 15) #[] #[]) []) w fun t8 w =>
    N (xv (Op.unary UnOp.not t8)) w fun t9 w =>
    k (Env.p e 9 t9) w) := nr (by kernel_rfl)
theorem o12_2_eq : opsW N M G 35 V12 o12_2 k o12_2.toList [] e e w =
    (M (Value.bool false) fun t4 =>
    k (Env.p e 4 t4) w) := nr (by kernel_rfl)
theorem c12_23_s (hw : Cur w) : W3 Try.prog 35 V12 c12_23 Q e w = (opsW (nx Try.prog) mv gdP 35 V12 o12_2 (fun e w => Q .ret e w) o12_2.toList [] e e w) := by rw [(by kernel_rfl : c12_23 = .seq (.region 2 o12_2 false) Code.ret), W3_seq_reg]; simp only [W3_ret, W3_skip, W3_exit, W3_label]
theorem c12_22_v : opV V12 (.tmp 9) = true := by kernel_rfl
theorem c12_22_s (hw : Cur w) : W3 Try.prog 35 V12 c12_22 Q e w = (condP (ev e (.tmp 9)) (W3 Try.prog 35 V12 c12_23 Q e w) (Q .normal e w)) := by rw [(by kernel_rfl : c12_22 = .cond (.tmp 9) c12_23 Code.skip), W3_cond, c12_22_v, cond_true]; simp only [W3_ret, W3_skip, W3_exit, W3_label]
theorem c12_21_s (hw : Cur w) : W3 Try.prog 35 V12 c12_21 Q e w = (opsW (nx Try.prog) mv gdP 35 V12 o12_1 (fun e w => W3 Try.prog 35 V12 c12_22 Q e w) o12_1.toList [] e e w) := by rw [(by kernel_rfl : c12_21 = .seq (.region 1 o12_1 false) c12_22), W3_seq_reg]
theorem c12_1_s (hw : Cur w) : W3 Try.prog 35 V12 c12_1 Q e w = (W3 Try.prog 35 V12 c12_21 (seqQ (fun e w => W3 Try.prog 35 V12 c12_2 Q e w) Q) e w) := by rw [(by kernel_rfl : c12_1 = .seq c12_21 c12_2), W3_seq]
theorem c12_s (hw : Cur w) : W3 Try.prog 35 V12 c12 Q e w = (opsW (nx Try.prog) mv gdP 35 V12 o12_0 (fun e w => W3 Try.prog 35 V12 c12_1 Q e w) o12_0.toList [] e e w) := by rw [(by kernel_rfl : c12 = .seq (.region 0 o12_0 false) c12_1), W3_seq_reg]
theorem call12 {a0 a1 : Value} {w : World} {R : Value → World → Prop} (h : W3 Try.prog 35 V12 c12 (retQ Try.prog [.tmp 4] R) (argE [a0, a1]) w) : CallsN Try.prog 12 [a0, a1] w R :=
  callsN_of_W3 (c := c12) (rs := [.tmp 4]) V12 Try.ntmps12 (by rw [Try.results12]) mixed Try.func12 (by kernel_rfl) (by kernel_rfl) (by kernel_rfl) (by kernel_rfl) (by simp) h
noncomputable def hk12 := And.intro (@o12_0_eq) <| And.intro (@o12_3_eq) <| And.intro (@o12_11_eq) <| And.intro (@c12_5_s) <| And.intro (@o12_6_eq) <| And.intro (@o12_8_eq) <| And.intro (@c12_11_s) <| And.intro (@o12_9_eq) <| And.intro (@o12_10_eq) <| And.intro (@c12_15_s) <| And.intro (@c12_14_s) <| And.intro (@c12_13_s) <| And.intro (@c12_12_s) <| And.intro (@c12_10_s) <| And.intro (@o12_7_eq) <| And.intro (@c12_17_s) <| And.intro (@c12_16_s) <| And.intro (@c12_9_s) <| And.intro (@c12_8_s) <| And.intro (@c12_7_s) <| And.intro (@c12_6_s) <| And.intro (@c12_4_s) <| And.intro (@o12_4_eq) <| And.intro (@o12_5_eq) <| And.intro (@c12_20_s) <| And.intro (@c12_19_s) <| And.intro (@c12_18_s) <| And.intro (@c12_3_s) <| And.intro (@c12_2_s) <| And.intro (@o12_1_eq) <| And.intro (@o12_2_eq) <| And.intro (@c12_23_s) <| And.intro (@c12_22_s) <| And.intro (@c12_21_s) <| And.intro (@c12_1_s) <| @c12_s
-- K12: ↓hk12
/-! ### vouch/vouchlaw05.StoreClones -/
def V13 : Nat → Bool := fun i => [0, 1, 2, 6, 7, 8, 9, 10, 11, 12, 13, 14, 15, 16, 17, 18, 19, 20, 21, 22, 23, 25, 33, 89, 93, 119, 125, 137, 151, 161, 165, 202].elem i
noncomputable def c13 : Code := (Try.f13.body.getD .skip)
noncomputable def o13_0 : Array Oper := rO (cL c13)
noncomputable def c13_1 : Code := (cR c13)
noncomputable def c13_2 : Code := (cR c13_1)
noncomputable def o13_3 : Array Oper := rO (cL c13_2)
noncomputable def c13_3 : Code := (cR c13_2)
noncomputable def c13_4 : Code := (cR c13_3)
noncomputable def o13_16 : Array Oper := rO (cL c13_4)
noncomputable def c13_5 : Code := (cR c13_4)
noncomputable def c13_6 : Code := (cR c13_5)
noncomputable def o13_19 : Array Oper := rO (cL c13_6)
noncomputable def c13_7 : Code := (cR c13_6)
noncomputable def c13_8 : Code := (cR c13_7)
noncomputable def c13_9 : Code := (cR c13_8)
noncomputable def c13_10 : Code := (cR c13_9)
noncomputable def o13_39 : Array Oper := rO (cL c13_10)
noncomputable def c13_11 : Code := (cL c13_9)
noncomputable def o13_34 : Array Oper := rO (cL c13_11)
noncomputable def c13_12 : Code := (cR c13_11)
noncomputable def c13_13 : Code := (cL c13_12)
noncomputable def c13_14 : Code := (cL c13_13)
noncomputable def c13_15 : Code := (cR c13_14)
noncomputable def c13_16 : Code := (cR c13_15)
noncomputable def o13_36 : Array Oper := rO c13_16
noncomputable def c13_17 : Code := (cL c13_15)
noncomputable def c13_18 : Code := (cL c13_17)
noncomputable def o13_37 : Array Oper := rO (cL c13_18)
noncomputable def c13_19 : Code := (cR c13_18)
noncomputable def c13_20 : Code := (cL c13_19)
noncomputable def o13_38 : Array Oper := rO (cL c13_20)
noncomputable def c13_21 : Code := (cL c13_14)
noncomputable def o13_35 : Array Oper := rO (cL c13_21)
noncomputable def c13_22 : Code := (cR c13_21)
noncomputable def c13_23 : Code := (cL c13_8)
noncomputable def o13_29 : Array Oper := rO (cL c13_23)
noncomputable def c13_24 : Code := (cR c13_23)
noncomputable def c13_25 : Code := (cL c13_24)
noncomputable def c13_26 : Code := (cL c13_25)
noncomputable def c13_27 : Code := (cR c13_26)
noncomputable def c13_28 : Code := (cR c13_27)
noncomputable def o13_31 : Array Oper := rO c13_28
noncomputable def c13_29 : Code := (cL c13_27)
noncomputable def c13_30 : Code := (cL c13_29)
noncomputable def o13_32 : Array Oper := rO (cL c13_30)
noncomputable def c13_31 : Code := (cR c13_30)
noncomputable def c13_32 : Code := (cL c13_31)
noncomputable def o13_33 : Array Oper := rO (cL c13_32)
noncomputable def c13_33 : Code := (cL c13_26)
noncomputable def o13_30 : Array Oper := rO (cL c13_33)
noncomputable def c13_34 : Code := (cR c13_33)
noncomputable def c13_35 : Code := (cL c13_7)
noncomputable def o13_20 : Array Oper := rO (cL c13_35)
noncomputable def c13_36 : Code := (cR c13_35)
noncomputable def c13_37 : Code := (cL c13_36)
noncomputable def c13_38 : Code := (cL c13_37)
noncomputable def c13_39 : Code := (cR c13_38)
noncomputable def c13_40 : Code := (cR c13_39)
noncomputable def o13_22 : Array Oper := rO c13_40
noncomputable def c13_41 : Code := (cL c13_39)
noncomputable def c13_42 : Code := (cL c13_41)
noncomputable def o13_23 : Array Oper := rO (cL c13_42)
noncomputable def c13_43 : Code := (cR c13_42)
noncomputable def c13_44 : Code := (cR c13_43)
noncomputable def o13_28 : Array Oper := rO c13_44
noncomputable def c13_45 : Code := (cL c13_43)
noncomputable def o13_24 : Array Oper := rO (cL c13_45)
noncomputable def c13_46 : Code := (cR c13_45)
noncomputable def c13_47 : Code := (cL c13_46)
noncomputable def c13_48 : Code := (cL c13_47)
noncomputable def c13_49 : Code := (cR c13_48)
noncomputable def c13_50 : Code := (cR c13_49)
noncomputable def o13_26 : Array Oper := rO c13_50
noncomputable def c13_51 : Code := (cL c13_49)
noncomputable def c13_52 : Code := (cL c13_51)
noncomputable def o13_27 : Array Oper := rO c13_52
noncomputable def c13_53 : Code := (cL c13_48)
noncomputable def o13_25 : Array Oper := rO (cL c13_53)
noncomputable def c13_54 : Code := (cR c13_53)
noncomputable def c13_55 : Code := (cL c13_38)
noncomputable def o13_21 : Array Oper := rO (cL c13_55)
noncomputable def c13_56 : Code := (cR c13_55)
noncomputable def c13_57 : Code := (cL c13_5)
noncomputable def o13_17 : Array Oper := rO (cL c13_57)
noncomputable def c13_58 : Code := (cR c13_57)
noncomputable def c13_59 : Code := (cL c13_58)
noncomputable def o13_18 : Array Oper := rO (cL c13_59)
noncomputable def c13_60 : Code := (cL c13_3)
noncomputable def o13_4 : Array Oper := rO (cL c13_60)
noncomputable def c13_61 : Code := (cR c13_60)
noncomputable def c13_62 : Code := (cL c13_61)
noncomputable def c13_63 : Code := (cL c13_62)
noncomputable def c13_64 : Code := (cR c13_63)
noncomputable def c13_65 : Code := (cR c13_64)
noncomputable def o13_6 : Array Oper := rO c13_65
noncomputable def c13_66 : Code := (cL c13_64)
noncomputable def c13_67 : Code := (cL c13_66)
noncomputable def o13_7 : Array Oper := rO (cL c13_67)
noncomputable def c13_68 : Code := (cR c13_67)
noncomputable def o13_8 : Array Oper := rO (cL c13_68)
noncomputable def c13_69 : Code := (cR c13_68)
noncomputable def o13_9 : Array Oper := rO (cL c13_69)
noncomputable def c13_70 : Code := (cR c13_69)
noncomputable def c13_71 : Code := (cR c13_70)
noncomputable def o13_12 : Array Oper := rO (cL c13_71)
noncomputable def c13_72 : Code := (cR c13_71)
noncomputable def c13_73 : Code := (cL c13_72)
noncomputable def c13_74 : Code := (cL c13_73)
noncomputable def c13_75 : Code := (cR c13_74)
noncomputable def c13_76 : Code := (cR c13_75)
noncomputable def o13_14 : Array Oper := rO c13_76
noncomputable def c13_77 : Code := (cL c13_75)
noncomputable def c13_78 : Code := (cL c13_77)
noncomputable def o13_15 : Array Oper := rO c13_78
noncomputable def c13_79 : Code := (cL c13_74)
noncomputable def o13_13 : Array Oper := rO (cL c13_79)
noncomputable def c13_80 : Code := (cR c13_79)
noncomputable def c13_81 : Code := (cL c13_70)
noncomputable def o13_10 : Array Oper := rO (cL c13_81)
noncomputable def c13_82 : Code := (cR c13_81)
noncomputable def c13_83 : Code := (cL c13_82)
noncomputable def o13_11 : Array Oper := rO (cL c13_83)
noncomputable def c13_84 : Code := (cL c13_63)
noncomputable def o13_5 : Array Oper := rO (cL c13_84)
noncomputable def c13_85 : Code := (cR c13_84)
noncomputable def c13_86 : Code := (cL c13_1)
noncomputable def o13_1 : Array Oper := rO (cL c13_86)
noncomputable def c13_87 : Code := (cR c13_86)
noncomputable def c13_88 : Code := (cL c13_87)
noncomputable def o13_2 : Array Oper := rO (cL c13_88)
theorem o13_0_eq : opsW N M G 216 V13 o13_0 k o13_0.toList [] e e w =
    (M (Value.bool false) fun t6 =>
    k (Env.p e 6 t6) w) := nr (by kernel_rfl)
theorem o13_3_eq : opsW N M G 216 V13 o13_3 k o13_3.toList [] e e w =
    (M (e 0) fun t26 =>
    N (xcall (Value.func (Fn.func 16) #[] #[]) [t26]) w fun t27 w =>
    M (e 0) fun t28 =>
    N (xcall (Value.func (Fn.func 46) #[] #[]) [t28]) w fun t29 w =>
    M t27 fun t7 =>
    M t29 fun t8 =>
    k (Env.p (Env.p e 7 t7) 8 t8) w) := nr (by kernel_rfl)
theorem o13_16_eq : drawGo3 N T3 M G H 216 V13 o13_16 (puK o13_16) k o13_16.size [] (Array.replicate o13_16.size false) [] e e w =
    (M (e 7) fun t100 =>
    M (e 8) fun t103 =>
    T3 (FrX none w) (xnil t103) fun t104 =>
    T3 (FrX none w) (xv (Instr.fieldAt 104 t104 0)) fun t105 =>
    T3 (FrX (some []) w) (xv (Instr.loadAt 102 t105)) fun t106 =>
    M (e 8) fun t108 =>
    T3 (FrX none w) (xnil t108) fun t109 =>
    T3 (FrX none w) (xv (Instr.fieldAt 104 t109 1)) fun t110 =>
    T3 (FrX (some []) w) (xv (Instr.loadAt 3 t110)) fun t111 =>
    M (e 8) fun t112 =>
    T3 (FrX none w) (xnil t112) fun t113 =>
    T3 (FrX none w) (xv (Instr.fieldAt 104 t113 2)) fun t114 =>
    T3 (FrX (some []) w) (xv (Instr.loadAt 2 t114)) fun t115 =>
    (N (xcall (Value.func (Fn.func 52) #[] #[]) [t100]) w fun t101 w1 =>
    FrX (some []) w w1 ∧ (FrX (some []) w w1 ∧ (FrX (some []) w w1 ∧ (N (xv (Instr.buildSlice 102 0 ([]).toArray)) w1 fun t102 w2 =>
    FrX (some []) w w2 ∧ (FrX (some []) w w2 ∧ (FrX (some []) w w2 ∧ (N (builtin Builtin.append #[102, 102] 102 ([false, false]).toArray ([t102, t106]).toArray) w2 fun t107 w7 =>
    FrX (some []) w w7 ∧ (FrX (some []) w w7 ∧ (T3 (FrX none w7) (xv (Instr.build 104 ([(0, t107), (1, t111), (2, t115)]).toArray)) fun t116 =>
    M t101 fun t16 =>
    N (xv (Instr.box 104 t116)) w7 fun t117 w17 =>
    M t117 fun t17 =>
    (k (Env.p (Env.p e 16 t16) 17 t17)) w17))))))))) ∧ (N (xv (Instr.buildSlice 102 0 ([]).toArray)) w fun t102 w2 =>
    FrX (some []) w w2 ∧ (FrX (some []) w w2 ∧ (FrX (some []) w w2 ∧ (N (xcall (Value.func (Fn.func 52) #[] #[]) [t100]) w2 fun t101 w1 =>
    FrX (some []) w w1 ∧ (FrX (some []) w w1 ∧ (FrX (some []) w w1 ∧ (N (builtin Builtin.append #[102, 102] 102 ([false, false]).toArray ([t102, t106]).toArray) w1 fun t107 w7 =>
    FrX (some []) w w7 ∧ (FrX (some []) w w7 ∧ (T3 (FrX none w7) (xv (Instr.build 104 ([(0, t107), (1, t111), (2, t115)]).toArray)) fun t116 =>
    M t101 fun t16 =>
    N (xv (Instr.box 104 t116)) w7 fun t117 w17 =>
    M t117 fun t17 =>
    (k (Env.p (Env.p e 16 t16) 17 t17)) w17)))))))))) := nr (by kernel_rfl)
theorem o13_19_eq : opsW N M G 216 V13 o13_19 k o13_19.toList [] e e w =
    (M (e 8) fun t120 =>
    N (xcall (Value.func (Fn.func 50) #[] #[]) [t120]) w fun t121 w =>
    M t121 fun t18 =>
    k (Env.p e 18 t18) w) := nr (by kernel_rfl)
theorem o13_39_eq : drawGo3 N T3 M G H 216 V13 o13_39 (puK o13_39) k o13_39.size [] (Array.replicate o13_39.size false) [] e e w =
    (M (e 7) fun t203 =>
    M (e 8) fun t205 =>
    T3 (FrX none w) (xnil t205) fun t206 =>
    T3 (FrX none w) (xv (Instr.fieldAt 104 t206 2)) fun t207 =>
    T3 (FrX (some []) w) (xv (Instr.loadAt 2 t207)) fun t208 =>
    N (xcall (Value.func (Fn.func 22) #[] #[]) [t203]) w fun t204 w1 =>
    FrX (some []) w w1 ∧ (T3 (FrX none w1) (xv (xbin BinOp.eql 2 (Operand.tmp 204) (Operand.tmp 208) t204 t208)) fun t209 =>
    M t209 fun t210 =>
    H (isB t210 true) (fun K => M (e 7) K) (fun t211 =>
    H (isB t210 true) (fun K => M (e 18) K) (fun t213 =>
    G (isB t210 true) (fun K => N (xcall (Value.func (Fn.func 49) #[] #[]) [t211]) w1 K) (fun t212 w9 =>
    G (isB t210 true) (fun K => N (xcall (Value.func (Fn.func 48) #[] #[]) [t212, t213]) w9 K) (fun t214 w11 =>
    T3 (FrX none w11) (xpick t210 t214 (Value.bool false)) fun t215 =>
    M t215 fun t6 =>
    (k (Env.p e 6 t6)) w11) w9) w1)))) := nr (by kernel_rfl)
theorem c13_10_s (hw : Cur w) : W3 Try.prog 216 V13 c13_10 Q e w = (drawGo3 (nx Try.prog) (takeP Try.prog) mv gdP gdT 216 V13 o13_39 (puK o13_39) (fun e w => Q .ret e w) o13_39.size [] (Array.replicate o13_39.size false) [] e e w.drew) := by rw [(by kernel_rfl : c13_10 = .seq (.region 39 o13_39 true) Code.ret), W3_seq_regD]; simp only [W3_ret, W3_skip, W3_exit, W3_label]
theorem o13_34_eq : opsW N M G 216 V13 o13_34 k o13_34.toList [] e e w =
    (M (Value.int IntKind.i64 0) fun t23 =>
    k (Env.p e 23 t23) w) := nr (by kernel_rfl)
theorem o13_36_eq : opsW N M G 216 V13 o13_36 k o13_36.toList [] e e w =
    (M (e 23) fun t166 =>
    N (xv (xbin BinOp.add 3 (Operand.tmp 166) (Operand.const (Value.int IntKind.i64 1)) t166 (Value.int IntKind.i64 1))) w fun t167 w =>
    M t167 fun t23 =>
    k (Env.p e 23 t23) w) := nr (by kernel_rfl)
theorem c13_16_s (hw : Cur w) : W3 Try.prog 216 V13 c13_16 Q e w = (opsW (nx Try.prog) mv gdP 216 V13 o13_36 (fun e w => Q .normal e w) o13_36.toList [] e e w) := by rw [(by kernel_rfl : c13_16 = (.region 36 o13_36 false)), W3_reg]
theorem o13_37_eq : drawGo3 N T3 M G H 216 V13 o13_37 (puK o13_37) k o13_37.size [] (Array.replicate o13_37.size false) [] e e w =
    (M (e 7) fun t168 =>
    M (e 8) fun t169 =>
    M (e 18) fun t170 =>
    M (e 23) fun t171 =>
    T3 (FrX none w) (xv (Instr.indexAt 52 t170 t171)) fun t172 =>
    T3 (FrX (some []) w) (xv (Instr.loadAt 9 t172)) fun t173 =>
    T3 (FrX none w) (xv (Instr.build 95 ([(0, (Value.int IntKind.u8 2)), (2, t173)]).toArray)) fun t174 =>
    N (xcall (Value.func (Fn.func 47) #[] #[]) [t168, t169, t174]) w fun t175 w7 =>
    T3 (FrX none w7) (xv (Op.unary UnOp.not t175)) fun t176 =>
    M t176 fun t177 =>
    H (isB t177 false) (fun K => M (e 16) K) (fun t178 =>
    H (isB t177 false) (fun K => M (e 17) K) (fun t179 =>
    H (isB t177 false) (fun K => M (e 18) K) (fun t180 =>
    H (isB t177 false) (fun K => M (e 23) K) (fun t181 =>
    H (isB t177 false) (fun K => T3 (FrX none w7) (xv (Instr.indexAt 52 t180 t181)) K) (fun t182 =>
    H (isB t177 false) (fun K => T3 (FrX (some []) w7) (xv (Instr.loadAt 9 t182)) K) (fun t183 =>
    H (isB t177 false) (fun K => T3 (FrX none w7) (xv (Instr.build 95 ([(0, (Value.int IntKind.u8 2)), (2, t183)]).toArray)) K) (fun t184 =>
    G (isB t177 false) (fun K => N (xcall (Value.func (Fn.func 47) #[] #[]) [t178, t179, t184]) w7 K) (fun t185 w17 =>
    H (isB t177 false) (fun K => T3 (FrX none w17) (xv (Op.unary UnOp.not t185)) K) (fun t186 =>
    T3 (FrX none w17) (xpick t177 (Value.bool true) t186) fun t187 =>
    M t187 fun t188 =>
    H (isB t188 false) (fun K => M (e 7) K) (fun t189 =>
    H (isB t188 false) (fun K => M (e 8) K) (fun t190 =>
    H (isB t188 false) (fun K => M (e 18) K) (fun t191 =>
    H (isB t188 false) (fun K => M (e 23) K) (fun t192 =>
    H (isB t188 false) (fun K => T3 (FrX none w17) (xv (Instr.indexAt 52 t191 t192)) K) (fun t193 =>
    H (isB t188 false) (fun K => T3 (FrX (some []) w17) (xv (Instr.loadAt 9 t193)) K) (fun t194 =>
    H (isB t188 false) (fun K => M (e 8) K) (fun t195 =>
    H (isB t188 false) (fun K => T3 (FrX none w17) (xnil t195) K) (fun t196 =>
    H (isB t188 false) (fun K => T3 (FrX none w17) (xv (Instr.fieldAt 104 t196 2)) K) (fun t197 =>
    H (isB t188 false) (fun K => T3 (FrX (some []) w17) (xv (Instr.loadAt 2 t197)) K) (fun t198 =>
    H (isB t188 false) (fun K => T3 (FrX none w17) (xv (Instr.build 95 ([(0, (Value.int IntKind.u8 1)), (2, t194), (3, t198)]).toArray)) K) (fun t199 =>
    G (isB t188 false) (fun K => N (xcall (Value.func (Fn.func 47) #[] #[]) [t189, t190, t199]) w17 K) (fun t200 w32 =>
    H (isB t188 false) (fun K => T3 (FrX none w32) (xv (Op.unary UnOp.not t200)) K) (fun t201 =>
    T3 (FrX none w32) (xpick t188 (Value.bool true) t201) fun t202 =>
    (k (Env.p e 202 t202)) w32)) w17))))))))))))) w7)))))))) := nr (by kernel_rfl)
theorem o13_38_eq : opsW N M G 216 V13 o13_38 k o13_38.toList [] e e w =
    (M (Value.bool false) fun t6 =>
    k (Env.p e 6 t6) w) := nr (by kernel_rfl)
theorem c13_20_s (hw : Cur w) : W3 Try.prog 216 V13 c13_20 Q e w = (opsW (nx Try.prog) mv gdP 216 V13 o13_38 (fun e w => Q .ret e w) o13_38.toList [] e e w) := by rw [(by kernel_rfl : c13_20 = .seq (.region 38 o13_38 false) Code.ret), W3_seq_reg]; simp only [W3_ret, W3_skip, W3_exit, W3_label]
theorem c13_19_v : opV V13 (.tmp 202) = true := by kernel_rfl
theorem c13_19_s (hw : Cur w) : W3 Try.prog 216 V13 c13_19 Q e w = (condP (ev e (.tmp 202)) (W3 Try.prog 216 V13 c13_20 Q e w) (Q .normal e w)) := by rw [(by kernel_rfl : c13_19 = .cond (.tmp 202) c13_20 Code.skip), W3_cond, c13_19_v, cond_true]; simp only [W3_ret, W3_skip, W3_exit, W3_label]
theorem c13_18_s (hw : Cur w) : W3 Try.prog 216 V13 c13_18 Q e w = (drawGo3 (nx Try.prog) (takeP Try.prog) mv gdP gdT 216 V13 o13_37 (puK o13_37) (fun e w => W3 Try.prog 216 V13 c13_19 Q e w) o13_37.size [] (Array.replicate o13_37.size false) [] e e w.drew) := by rw [(by kernel_rfl : c13_18 = .seq (.region 37 o13_37 true) c13_19), W3_seq_regD]
theorem c13_17_s (hw : Cur w) : W3 Try.prog 216 V13 c13_17 Q e w = (W3 Try.prog 216 V13 c13_18 (blockQ 11 Q) e w) := by rw [(by kernel_rfl : c13_17 = .block 11 c13_18), W3_block]
theorem c13_15_s (hw : Cur w) : W3 Try.prog 216 V13 c13_15 Q e w = (W3 Try.prog 216 V13 c13_17 (seqQ (fun e w => W3 Try.prog 216 V13 c13_16 Q e w) Q) e w) := by rw [(by kernel_rfl : c13_15 = .seq c13_17 c13_16), W3_seq]
theorem o13_35_eq : opsW N M G 216 V13 o13_35 k o13_35.toList [] e e w =
    (M (e 23) fun t162 =>
    M (e 18) fun t163 =>
    N (builtin Builtin.len #[52] 3 ([false]).toArray ([t163]).toArray) w fun t164 w =>
    N (xv (xbin BinOp.lss 3 (Operand.tmp 162) (Operand.tmp 164) t162 t164)) w fun t165 w =>
    k (Env.p e 165 t165) w) := nr (by kernel_rfl)
theorem c13_22_v : opV V13 (.tmp 165) = true := by kernel_rfl
theorem c13_22_s (hw : Cur w) : W3 Try.prog 216 V13 c13_22 Q e w = (condP (ev e (.tmp 165)) (Q .normal e w) (Q (.exit 10) e w)) := by rw [(by kernel_rfl : c13_22 = .cond (.tmp 165) Code.skip (Code.exit 10)), W3_cond, c13_22_v, cond_true]; simp only [W3_ret, W3_skip, W3_exit, W3_label]
theorem c13_21_s (hw : Cur w) : W3 Try.prog 216 V13 c13_21 Q e w = (opsW (nx Try.prog) mv gdP 216 V13 o13_35 (fun e w => W3 Try.prog 216 V13 c13_22 Q e w) o13_35.toList [] e e w) := by rw [(by kernel_rfl : c13_21 = .seq (.region 35 o13_35 false) c13_22), W3_seq_reg]
theorem c13_14_s (hw : Cur w) : W3 Try.prog 216 V13 c13_14 Q e w = (W3 Try.prog 216 V13 c13_21 (seqQ (fun e w => W3 Try.prog 216 V13 c13_15 Q e w) Q) e w) := by rw [(by kernel_rfl : c13_14 = .seq c13_21 c13_15), W3_seq]
theorem c13_13_s (hw : Cur w) : W3 Try.prog 216 V13 c13_13 Q e w = (LoopP (fun e w k => W3 Try.prog 216 V13 c13_14 (seqQ k Q) e w) e w) := by rw [(by kernel_rfl : c13_13 = .loop c13_14), W3_loop]
theorem c13_12_s (hw : Cur w) : W3 Try.prog 216 V13 c13_12 Q e w = (W3 Try.prog 216 V13 c13_13 (blockQ 10 Q) e w) := by rw [(by kernel_rfl : c13_12 = .block 10 c13_13), W3_block]
theorem c13_11_s (hw : Cur w) : W3 Try.prog 216 V13 c13_11 Q e w = (opsW (nx Try.prog) mv gdP 216 V13 o13_34 (fun e w => W3 Try.prog 216 V13 c13_12 Q e w) o13_34.toList [] e e w) := by rw [(by kernel_rfl : c13_11 = .seq (.region 34 o13_34 false) c13_12), W3_seq_reg]
theorem c13_9_s (hw : Cur w) : W3 Try.prog 216 V13 c13_9 Q e w = (W3 Try.prog 216 V13 c13_11 (seqQ (fun e w => W3 Try.prog 216 V13 c13_10 Q e w) Q) e w) := by rw [(by kernel_rfl : c13_9 = .seq c13_11 c13_10), W3_seq]
theorem o13_29_eq : opsW N M G 216 V13 o13_29 k o13_29.toList [] e e w =
    (M (Value.int IntKind.i64 0) fun t22 =>
    k (Env.p e 22 t22) w) := nr (by kernel_rfl)
theorem o13_31_eq : opsW N M G 216 V13 o13_31 k o13_31.toList [] e e w =
    (M (e 22) fun t152 =>
    N (xv (xbin BinOp.add 3 (Operand.tmp 152) (Operand.const (Value.int IntKind.i64 1)) t152 (Value.int IntKind.i64 1))) w fun t153 w =>
    M t153 fun t22 =>
    k (Env.p e 22 t22) w) := nr (by kernel_rfl)
theorem c13_28_s (hw : Cur w) : W3 Try.prog 216 V13 c13_28 Q e w = (opsW (nx Try.prog) mv gdP 216 V13 o13_31 (fun e w => Q .normal e w) o13_31.toList [] e e w) := by rw [(by kernel_rfl : c13_28 = (.region 31 o13_31 false)), W3_reg]
theorem o13_32_eq : opsW N M G 216 V13 o13_32 k o13_32.toList [] e e w =
    (M (e 16) fun t154 =>
    M (e 17) fun t155 =>
    M (e 2) fun t156 =>
    M (e 22) fun t157 =>
    N (xv (Instr.indexAt 90 t156 t157)) w fun t158 w =>
    N (xv (Instr.loadAt 95 t158)) w fun t159 w =>
    N (xcall (Value.func (Fn.func 47) #[] #[]) [t154, t155, t159]) w fun t160 w =>
    N (xv (Op.unary UnOp.not t160)) w fun t161 w =>
    k (Env.p e 161 t161) w) := nr (by kernel_rfl)
theorem o13_33_eq : opsW N M G 216 V13 o13_33 k o13_33.toList [] e e w =
    (M (Value.bool false) fun t6 =>
    k (Env.p e 6 t6) w) := nr (by kernel_rfl)
theorem c13_32_s (hw : Cur w) : W3 Try.prog 216 V13 c13_32 Q e w = (opsW (nx Try.prog) mv gdP 216 V13 o13_33 (fun e w => Q .ret e w) o13_33.toList [] e e w) := by rw [(by kernel_rfl : c13_32 = .seq (.region 33 o13_33 false) Code.ret), W3_seq_reg]; simp only [W3_ret, W3_skip, W3_exit, W3_label]
theorem c13_31_v : opV V13 (.tmp 161) = true := by kernel_rfl
theorem c13_31_s (hw : Cur w) : W3 Try.prog 216 V13 c13_31 Q e w = (condP (ev e (.tmp 161)) (W3 Try.prog 216 V13 c13_32 Q e w) (Q .normal e w)) := by rw [(by kernel_rfl : c13_31 = .cond (.tmp 161) c13_32 Code.skip), W3_cond, c13_31_v, cond_true]; simp only [W3_ret, W3_skip, W3_exit, W3_label]
theorem c13_30_s (hw : Cur w) : W3 Try.prog 216 V13 c13_30 Q e w = (opsW (nx Try.prog) mv gdP 216 V13 o13_32 (fun e w => W3 Try.prog 216 V13 c13_31 Q e w) o13_32.toList [] e e w) := by rw [(by kernel_rfl : c13_30 = .seq (.region 32 o13_32 false) c13_31), W3_seq_reg]
theorem c13_29_s (hw : Cur w) : W3 Try.prog 216 V13 c13_29 Q e w = (W3 Try.prog 216 V13 c13_30 (blockQ 9 Q) e w) := by rw [(by kernel_rfl : c13_29 = .block 9 c13_30), W3_block]
theorem c13_27_s (hw : Cur w) : W3 Try.prog 216 V13 c13_27 Q e w = (W3 Try.prog 216 V13 c13_29 (seqQ (fun e w => W3 Try.prog 216 V13 c13_28 Q e w) Q) e w) := by rw [(by kernel_rfl : c13_27 = .seq c13_29 c13_28), W3_seq]
theorem o13_30_eq : opsW N M G 216 V13 o13_30 k o13_30.toList [] e e w =
    (M (e 22) fun t148 =>
    M (e 2) fun t149 =>
    N (builtin Builtin.len #[90] 3 ([false]).toArray ([t149]).toArray) w fun t150 w =>
    N (xv (xbin BinOp.lss 3 (Operand.tmp 148) (Operand.tmp 150) t148 t150)) w fun t151 w =>
    k (Env.p e 151 t151) w) := nr (by kernel_rfl)
theorem c13_34_v : opV V13 (.tmp 151) = true := by kernel_rfl
theorem c13_34_s (hw : Cur w) : W3 Try.prog 216 V13 c13_34 Q e w = (condP (ev e (.tmp 151)) (Q .normal e w) (Q (.exit 8) e w)) := by rw [(by kernel_rfl : c13_34 = .cond (.tmp 151) Code.skip (Code.exit 8)), W3_cond, c13_34_v, cond_true]; simp only [W3_ret, W3_skip, W3_exit, W3_label]
theorem c13_33_s (hw : Cur w) : W3 Try.prog 216 V13 c13_33 Q e w = (opsW (nx Try.prog) mv gdP 216 V13 o13_30 (fun e w => W3 Try.prog 216 V13 c13_34 Q e w) o13_30.toList [] e e w) := by rw [(by kernel_rfl : c13_33 = .seq (.region 30 o13_30 false) c13_34), W3_seq_reg]
theorem c13_26_s (hw : Cur w) : W3 Try.prog 216 V13 c13_26 Q e w = (W3 Try.prog 216 V13 c13_33 (seqQ (fun e w => W3 Try.prog 216 V13 c13_27 Q e w) Q) e w) := by rw [(by kernel_rfl : c13_26 = .seq c13_33 c13_27), W3_seq]
theorem c13_25_s (hw : Cur w) : W3 Try.prog 216 V13 c13_25 Q e w = (LoopP (fun e w k => W3 Try.prog 216 V13 c13_26 (seqQ k Q) e w) e w) := by rw [(by kernel_rfl : c13_25 = .loop c13_26), W3_loop]
theorem c13_24_s (hw : Cur w) : W3 Try.prog 216 V13 c13_24 Q e w = (W3 Try.prog 216 V13 c13_25 (blockQ 8 Q) e w) := by rw [(by kernel_rfl : c13_24 = .block 8 c13_25), W3_block]
theorem c13_23_s (hw : Cur w) : W3 Try.prog 216 V13 c13_23 Q e w = (opsW (nx Try.prog) mv gdP 216 V13 o13_29 (fun e w => W3 Try.prog 216 V13 c13_24 Q e w) o13_29.toList [] e e w) := by rw [(by kernel_rfl : c13_23 = .seq (.region 29 o13_29 false) c13_24), W3_seq_reg]
theorem c13_8_s (hw : Cur w) : W3 Try.prog 216 V13 c13_8 Q e w = (W3 Try.prog 216 V13 c13_23 (seqQ (fun e w => W3 Try.prog 216 V13 c13_9 Q e w) Q) e w) := by rw [(by kernel_rfl : c13_8 = .seq c13_23 c13_9), W3_seq]
theorem o13_20_eq : opsW N M G 216 V13 o13_20 k o13_20.toList [] e e w =
    (M (Value.int IntKind.i64 0) fun t19 =>
    k (Env.p e 19 t19) w) := nr (by kernel_rfl)
theorem o13_22_eq : opsW N M G 216 V13 o13_22 k o13_22.toList [] e e w =
    (M (e 19) fun t126 =>
    N (xv (xbin BinOp.add 3 (Operand.tmp 126) (Operand.const (Value.int IntKind.i64 1)) t126 (Value.int IntKind.i64 1))) w fun t127 w =>
    M t127 fun t19 =>
    k (Env.p e 19 t19) w) := nr (by kernel_rfl)
theorem c13_40_s (hw : Cur w) : W3 Try.prog 216 V13 c13_40 Q e w = (opsW (nx Try.prog) mv gdP 216 V13 o13_22 (fun e w => Q .normal e w) o13_22.toList [] e e w) := by rw [(by kernel_rfl : c13_40 = (.region 22 o13_22 false)), W3_reg]
theorem o13_23_eq : opsW N M G 216 V13 o13_23 k o13_23.toList [] e e w =
    (M (e 7) fun t128 =>
    M (e 18) fun t129 =>
    M (e 19) fun t130 =>
    N (xv (Instr.indexAt 52 t129 t130)) w fun t131 w =>
    N (xv (Instr.loadAt 9 t131)) w fun t132 w =>
    N (xcall (Value.func (Fn.func 24) #[] #[]) [t128, t132]) w fun t133 w =>
    M t133 fun t20 =>
    k (Env.p e 20 t20) w) := nr (by kernel_rfl)
theorem o13_28_eq : opsW N M G 216 V13 o13_28 k o13_28.toList [] e e w =
    (M (e 20) fun t144 =>
    N (xv (Instr.build 106 ([(0, (Value.int IntKind.i64 (-2)))]).toArray)) w fun t145 w =>
    N (xv (Instr.buildSlice 46 1 ([(0, t145)]).toArray)) w fun t146 w =>
    N (builtin Builtin.append #[46, 46] 46 ([false, false]).toArray ([t144, t146]).toArray) w fun t147 w =>
    M t147 fun t20 =>
    k (Env.p e 20 t20) w) := nr (by kernel_rfl)
theorem c13_44_s (hw : Cur w) : W3 Try.prog 216 V13 c13_44 Q e w = (opsW (nx Try.prog) mv gdP 216 V13 o13_28 (fun e w => Q .normal e w) o13_28.toList [] e e w) := by rw [(by kernel_rfl : c13_44 = (.region 28 o13_28 false)), W3_reg]
theorem o13_24_eq : opsW N M G 216 V13 o13_24 k o13_24.toList [] e e w =
    (M (Value.int IntKind.i64 0) fun t21 =>
    k (Env.p e 21 t21) w) := nr (by kernel_rfl)
theorem o13_26_eq : opsW N M G 216 V13 o13_26 k o13_26.toList [] e e w =
    (M (e 21) fun t138 =>
    N (xv (xbin BinOp.add 3 (Operand.tmp 138) (Operand.const (Value.int IntKind.i64 1)) t138 (Value.int IntKind.i64 1))) w fun t139 w =>
    M t139 fun t21 =>
    k (Env.p e 21 t21) w) := nr (by kernel_rfl)
theorem c13_50_s (hw : Cur w) : W3 Try.prog 216 V13 c13_50 Q e w = (opsW (nx Try.prog) mv gdP 216 V13 o13_26 (fun e w => Q .normal e w) o13_26.toList [] e e w) := by rw [(by kernel_rfl : c13_50 = (.region 26 o13_26 false)), W3_reg]
theorem o13_27_eq : opsW N M G 216 V13 o13_27 k o13_27.toList [] e e w =
    (M (e 20) fun t140 =>
    M (e 21) fun t141 =>
    N (xv (Instr.build 106 ([(0, (Value.int IntKind.i64 (-1)))]).toArray)) w fun t142 w =>
    N (xv (Instr.indexAt 46 t140 t141)) w fun t143 w =>
    N (xu (Instr.storeAt 106 t143 t142)) w fun _ w =>
    k e w) := nr (by kernel_rfl)
theorem c13_52_s (hw : Cur w) : W3 Try.prog 216 V13 c13_52 Q e w = (opsW (nx Try.prog) mv gdP 216 V13 o13_27 (fun e w => Q .normal e w) o13_27.toList [] e e w) := by rw [(by kernel_rfl : c13_52 = (.region 27 o13_27 false)), W3_reg]
theorem c13_51_s (hw : Cur w) : W3 Try.prog 216 V13 c13_51 Q e w = (W3 Try.prog 216 V13 c13_52 (blockQ 7 Q) e w) := by rw [(by kernel_rfl : c13_51 = .block 7 c13_52), W3_block]
theorem c13_49_s (hw : Cur w) : W3 Try.prog 216 V13 c13_49 Q e w = (W3 Try.prog 216 V13 c13_51 (seqQ (fun e w => W3 Try.prog 216 V13 c13_50 Q e w) Q) e w) := by rw [(by kernel_rfl : c13_49 = .seq c13_51 c13_50), W3_seq]
theorem o13_25_eq : opsW N M G 216 V13 o13_25 k o13_25.toList [] e e w =
    (M (e 21) fun t134 =>
    M (e 20) fun t135 =>
    N (builtin Builtin.len #[46] 3 ([false]).toArray ([t135]).toArray) w fun t136 w =>
    N (xv (xbin BinOp.lss 3 (Operand.tmp 134) (Operand.tmp 136) t134 t136)) w fun t137 w =>
    k (Env.p e 137 t137) w) := nr (by kernel_rfl)
theorem c13_54_v : opV V13 (.tmp 137) = true := by kernel_rfl
theorem c13_54_s (hw : Cur w) : W3 Try.prog 216 V13 c13_54 Q e w = (condP (ev e (.tmp 137)) (Q .normal e w) (Q (.exit 6) e w)) := by rw [(by kernel_rfl : c13_54 = .cond (.tmp 137) Code.skip (Code.exit 6)), W3_cond, c13_54_v, cond_true]; simp only [W3_ret, W3_skip, W3_exit, W3_label]
theorem c13_53_s (hw : Cur w) : W3 Try.prog 216 V13 c13_53 Q e w = (opsW (nx Try.prog) mv gdP 216 V13 o13_25 (fun e w => W3 Try.prog 216 V13 c13_54 Q e w) o13_25.toList [] e e w) := by rw [(by kernel_rfl : c13_53 = .seq (.region 25 o13_25 false) c13_54), W3_seq_reg]
theorem c13_48_s (hw : Cur w) : W3 Try.prog 216 V13 c13_48 Q e w = (W3 Try.prog 216 V13 c13_53 (seqQ (fun e w => W3 Try.prog 216 V13 c13_49 Q e w) Q) e w) := by rw [(by kernel_rfl : c13_48 = .seq c13_53 c13_49), W3_seq]
theorem c13_47_s (hw : Cur w) : W3 Try.prog 216 V13 c13_47 Q e w = (LoopP (fun e w k => W3 Try.prog 216 V13 c13_48 (seqQ k Q) e w) e w) := by rw [(by kernel_rfl : c13_47 = .loop c13_48), W3_loop]
theorem c13_46_s (hw : Cur w) : W3 Try.prog 216 V13 c13_46 Q e w = (W3 Try.prog 216 V13 c13_47 (blockQ 6 Q) e w) := by rw [(by kernel_rfl : c13_46 = .block 6 c13_47), W3_block]
theorem c13_45_s (hw : Cur w) : W3 Try.prog 216 V13 c13_45 Q e w = (opsW (nx Try.prog) mv gdP 216 V13 o13_24 (fun e w => W3 Try.prog 216 V13 c13_46 Q e w) o13_24.toList [] e e w) := by rw [(by kernel_rfl : c13_45 = .seq (.region 24 o13_24 false) c13_46), W3_seq_reg]
theorem c13_43_s (hw : Cur w) : W3 Try.prog 216 V13 c13_43 Q e w = (W3 Try.prog 216 V13 c13_45 (seqQ (fun e w => W3 Try.prog 216 V13 c13_44 Q e w) Q) e w) := by rw [(by kernel_rfl : c13_43 = .seq c13_45 c13_44), W3_seq]
theorem c13_42_s (hw : Cur w) : W3 Try.prog 216 V13 c13_42 Q e w = (opsW (nx Try.prog) mv gdP 216 V13 o13_23 (fun e w => W3 Try.prog 216 V13 c13_43 Q e w) o13_23.toList [] e e w) := by rw [(by kernel_rfl : c13_42 = .seq (.region 23 o13_23 false) c13_43), W3_seq_reg]
theorem c13_41_s (hw : Cur w) : W3 Try.prog 216 V13 c13_41 Q e w = (W3 Try.prog 216 V13 c13_42 (blockQ 5 Q) e w) := by rw [(by kernel_rfl : c13_41 = .block 5 c13_42), W3_block]
theorem c13_39_s (hw : Cur w) : W3 Try.prog 216 V13 c13_39 Q e w = (W3 Try.prog 216 V13 c13_41 (seqQ (fun e w => W3 Try.prog 216 V13 c13_40 Q e w) Q) e w) := by rw [(by kernel_rfl : c13_39 = .seq c13_41 c13_40), W3_seq]
theorem o13_21_eq : opsW N M G 216 V13 o13_21 k o13_21.toList [] e e w =
    (M (e 19) fun t122 =>
    M (e 18) fun t123 =>
    N (builtin Builtin.len #[52] 3 ([false]).toArray ([t123]).toArray) w fun t124 w =>
    N (xv (xbin BinOp.lss 3 (Operand.tmp 122) (Operand.tmp 124) t122 t124)) w fun t125 w =>
    k (Env.p e 125 t125) w) := nr (by kernel_rfl)
theorem c13_56_v : opV V13 (.tmp 125) = true := by kernel_rfl
theorem c13_56_s (hw : Cur w) : W3 Try.prog 216 V13 c13_56 Q e w = (condP (ev e (.tmp 125)) (Q .normal e w) (Q (.exit 4) e w)) := by rw [(by kernel_rfl : c13_56 = .cond (.tmp 125) Code.skip (Code.exit 4)), W3_cond, c13_56_v, cond_true]; simp only [W3_ret, W3_skip, W3_exit, W3_label]
theorem c13_55_s (hw : Cur w) : W3 Try.prog 216 V13 c13_55 Q e w = (opsW (nx Try.prog) mv gdP 216 V13 o13_21 (fun e w => W3 Try.prog 216 V13 c13_56 Q e w) o13_21.toList [] e e w) := by rw [(by kernel_rfl : c13_55 = .seq (.region 21 o13_21 false) c13_56), W3_seq_reg]
theorem c13_38_s (hw : Cur w) : W3 Try.prog 216 V13 c13_38 Q e w = (W3 Try.prog 216 V13 c13_55 (seqQ (fun e w => W3 Try.prog 216 V13 c13_39 Q e w) Q) e w) := by rw [(by kernel_rfl : c13_38 = .seq c13_55 c13_39), W3_seq]
theorem c13_37_s (hw : Cur w) : W3 Try.prog 216 V13 c13_37 Q e w = (LoopP (fun e w k => W3 Try.prog 216 V13 c13_38 (seqQ k Q) e w) e w) := by rw [(by kernel_rfl : c13_37 = .loop c13_38), W3_loop]
theorem c13_36_s (hw : Cur w) : W3 Try.prog 216 V13 c13_36 Q e w = (W3 Try.prog 216 V13 c13_37 (blockQ 4 Q) e w) := by rw [(by kernel_rfl : c13_36 = .block 4 c13_37), W3_block]
theorem c13_35_s (hw : Cur w) : W3 Try.prog 216 V13 c13_35 Q e w = (opsW (nx Try.prog) mv gdP 216 V13 o13_20 (fun e w => W3 Try.prog 216 V13 c13_36 Q e w) o13_20.toList [] e e w) := by rw [(by kernel_rfl : c13_35 = .seq (.region 20 o13_20 false) c13_36), W3_seq_reg]
theorem c13_7_s (hw : Cur w) : W3 Try.prog 216 V13 c13_7 Q e w = (W3 Try.prog 216 V13 c13_35 (seqQ (fun e w => W3 Try.prog 216 V13 c13_8 Q e w) Q) e w) := by rw [(by kernel_rfl : c13_7 = .seq c13_35 c13_8), W3_seq]
theorem c13_6_s (hw : Cur w) : W3 Try.prog 216 V13 c13_6 Q e w = (opsW (nx Try.prog) mv gdP 216 V13 o13_19 (fun e w => W3 Try.prog 216 V13 c13_7 Q e w) o13_19.toList [] e e w) := by rw [(by kernel_rfl : c13_6 = .seq (.region 19 o13_19 false) c13_7), W3_seq_reg]
theorem o13_17_eq : opsW N M G 216 V13 o13_17 k o13_17.toList [] e e w =
    (M (e 16) fun t118 =>
    N (xv (xbin BinOp.eql 24 (Operand.tmp 118) (Operand.const (Value.pointer none)) t118 (Value.pointer none))) w fun t119 w =>
    k (Env.p e 119 t119) w) := nr (by kernel_rfl)
theorem o13_18_eq : opsW N M G 216 V13 o13_18 k o13_18.toList [] e e w =
    (M (Value.bool false) fun t6 =>
    k (Env.p e 6 t6) w) := nr (by kernel_rfl)
theorem c13_59_s (hw : Cur w) : W3 Try.prog 216 V13 c13_59 Q e w = (opsW (nx Try.prog) mv gdP 216 V13 o13_18 (fun e w => Q .ret e w) o13_18.toList [] e e w) := by rw [(by kernel_rfl : c13_59 = .seq (.region 18 o13_18 false) Code.ret), W3_seq_reg]; simp only [W3_ret, W3_skip, W3_exit, W3_label]
theorem c13_58_v : opV V13 (.tmp 119) = true := by kernel_rfl
theorem c13_58_s (hw : Cur w) : W3 Try.prog 216 V13 c13_58 Q e w = (condP (ev e (.tmp 119)) (W3 Try.prog 216 V13 c13_59 Q e w) (Q .normal e w)) := by rw [(by kernel_rfl : c13_58 = .cond (.tmp 119) c13_59 Code.skip), W3_cond, c13_58_v, cond_true]; simp only [W3_ret, W3_skip, W3_exit, W3_label]
theorem c13_57_s (hw : Cur w) : W3 Try.prog 216 V13 c13_57 Q e w = (opsW (nx Try.prog) mv gdP 216 V13 o13_17 (fun e w => W3 Try.prog 216 V13 c13_58 Q e w) o13_17.toList [] e e w) := by rw [(by kernel_rfl : c13_57 = .seq (.region 17 o13_17 false) c13_58), W3_seq_reg]
theorem c13_5_s (hw : Cur w) : W3 Try.prog 216 V13 c13_5 Q e w = (W3 Try.prog 216 V13 c13_57 (seqQ (fun e w => W3 Try.prog 216 V13 c13_6 Q e w) Q) e w) := by rw [(by kernel_rfl : c13_5 = .seq c13_57 c13_6), W3_seq]
theorem c13_4_s (hw : Cur w) : W3 Try.prog 216 V13 c13_4 Q e w = (drawGo3 (nx Try.prog) (takeP Try.prog) mv gdP gdT 216 V13 o13_16 (puK o13_16) (fun e w => W3 Try.prog 216 V13 c13_5 Q e w) o13_16.size [] (Array.replicate o13_16.size false) [] e e w.drew) := by rw [(by kernel_rfl : c13_4 = .seq (.region 16 o13_16 true) c13_5), W3_seq_regD]
theorem o13_4_eq : opsW N M G 216 V13 o13_4 k o13_4.toList [] e e w =
    (M (Value.int IntKind.i64 0) fun t9 =>
    k (Env.p e 9 t9) w) := nr (by kernel_rfl)
theorem o13_6_eq : opsW N M G 216 V13 o13_6 k o13_6.toList [] e e w =
    (M (e 9) fun t34 =>
    N (xv (xbin BinOp.add 3 (Operand.tmp 34) (Operand.const (Value.int IntKind.i64 1)) t34 (Value.int IntKind.i64 1))) w fun t35 w =>
    M t35 fun t9 =>
    k (Env.p e 9 t9) w) := nr (by kernel_rfl)
theorem c13_65_s (hw : Cur w) : W3 Try.prog 216 V13 c13_65 Q e w = (opsW (nx Try.prog) mv gdP 216 V13 o13_6 (fun e w => Q .normal e w) o13_6.toList [] e e w) := by rw [(by kernel_rfl : c13_65 = (.region 6 o13_6 false)), W3_reg]
theorem o13_7_eq : opsW N M G 216 V13 o13_7 k o13_7.toList [] e e w =
    (N (xv (Instr.buildSlice 40 0 ([]).toArray)) w fun t36 w =>
    M (e 1) fun t37 =>
    M (e 9) fun t38 =>
    N (xv (Instr.indexAt 90 t37 t38)) w fun t39 w =>
    N (xv (Instr.fieldAt 95 t39 1)) w fun t40 w =>
    N (xv (Instr.loadAt 40 t40)) w fun t41 w =>
    N (builtin Builtin.append #[40, 40] 40 ([false, false]).toArray ([t36, t41]).toArray) w fun t42 w =>
    N (xcall (Value.func (Fn.func 23) #[] #[]) [(Value.string ⟨#[115, 112, 97, 114, 101]⟩), (Value.string ⟨#[114, 111, 111, 109]⟩)]) w fun t43 w =>
    N (xv (Instr.buildSlice 40 1 ([(0, t43)]).toArray)) w fun t44 w =>
    N (builtin Builtin.append #[40, 40] 40 ([false, false]).toArray ([t42, t44]).toArray) w fun t45 w =>
    M t45 fun t10 =>
    k (Env.p e 10 t10) w) := nr (by kernel_rfl)
theorem o13_8_eq : opsW N M G 216 V13 o13_8 k o13_8.toList [] e e w =
    (M (e 7) fun t47 =>
    M (e 10) fun t48 =>
    M (e 1) fun t49 =>
    M (e 9) fun t50 =>
    N (xv (Instr.indexAt 90 t49 t50)) w fun t51 w =>
    N (xv (Instr.fieldAt 95 t51 1)) w fun t52 w =>
    N (xv (Instr.loadAt 40 t52)) w fun t53 w =>
    N (builtin Builtin.len #[40] 3 ([false]).toArray ([t53]).toArray) w fun t54 w =>
    N (xv (Instr.sliceAt 40 t48 none (some t54) none)) w fun t55 w =>
    N (xcall (Value.func (Fn.func 21) #[] #[]) [t47, t55]) w fun t56 w =>
    M t56 fun t46 =>
    N (xv (Instr.extract t46 0)) w fun t57 w =>
    N (xv (Instr.extract t46 1)) w fun t58 w =>
    M t57 fun t11 =>
    M t58 fun t12 =>
    k (Env.p (Env.p e 11 t11) 12 t12) w) := nr (by kernel_rfl)
theorem o13_9_eq : opsW N M G 216 V13 o13_9 k o13_9.toList [] e e w =
    (M (e 8) fun t60 =>
    M (e 1) fun t61 =>
    M (e 9) fun t62 =>
    N (xv (Instr.indexAt 90 t61 t62)) w fun t63 w =>
    N (xv (Instr.fieldAt 95 t63 1)) w fun t64 w =>
    N (xv (Instr.loadAt 40 t64)) w fun t65 w =>
    N (xcall (Value.func (Fn.func 51) #[] #[]) [t60, t65]) w fun t66 w =>
    M t66 fun t59 =>
    N (xv (Instr.extract t59 0)) w fun t67 w =>
    N (xv (Instr.extract t59 1)) w fun t68 w =>
    M t67 fun t13 =>
    M t68 fun t14 =>
    k (Env.p (Env.p e 13 t13) 14 t14) w) := nr (by kernel_rfl)
theorem o13_12_eq : opsW N M G 216 V13 o13_12 k o13_12.toList [] e e w =
    (M (Value.int IntKind.i64 0) fun t15 =>
    k (Env.p e 15 t15) w) := nr (by kernel_rfl)
theorem o13_14_eq : opsW N M G 216 V13 o13_14 k o13_14.toList [] e e w =
    (M (e 15) fun t94 =>
    N (xv (xbin BinOp.add 3 (Operand.tmp 94) (Operand.const (Value.int IntKind.i64 1)) t94 (Value.int IntKind.i64 1))) w fun t95 w =>
    M t95 fun t15 =>
    k (Env.p e 15 t15) w) := nr (by kernel_rfl)
theorem c13_76_s (hw : Cur w) : W3 Try.prog 216 V13 c13_76 Q e w = (opsW (nx Try.prog) mv gdP 216 V13 o13_14 (fun e w => Q .normal e w) o13_14.toList [] e e w) := by rw [(by kernel_rfl : c13_76 = (.region 14 o13_14 false)), W3_reg]
theorem o13_15_eq : opsW N M G 216 V13 o13_15 k o13_15.toList [] e e w =
    (M (e 10) fun t96 =>
    M (e 15) fun t97 =>
    N (xcall (Value.func (Fn.func 23) #[] #[]) [(Value.string ⟨#[111, 118, 101, 114]⟩), (Value.string ⟨#[119, 114, 105, 116, 116, 101, 110]⟩)]) w fun t98 w =>
    N (xv (Instr.indexAt 40 t96 t97)) w fun t99 w =>
    N (xu (Instr.storeAt 44 t99 t98)) w fun _ w =>
    k e w) := nr (by kernel_rfl)
theorem c13_78_s (hw : Cur w) : W3 Try.prog 216 V13 c13_78 Q e w = (opsW (nx Try.prog) mv gdP 216 V13 o13_15 (fun e w => Q .normal e w) o13_15.toList [] e e w) := by rw [(by kernel_rfl : c13_78 = (.region 15 o13_15 false)), W3_reg]
theorem c13_77_s (hw : Cur w) : W3 Try.prog 216 V13 c13_77 Q e w = (W3 Try.prog 216 V13 c13_78 (blockQ 3 Q) e w) := by rw [(by kernel_rfl : c13_77 = .block 3 c13_78), W3_block]
theorem c13_75_s (hw : Cur w) : W3 Try.prog 216 V13 c13_75 Q e w = (W3 Try.prog 216 V13 c13_77 (seqQ (fun e w => W3 Try.prog 216 V13 c13_76 Q e w) Q) e w) := by rw [(by kernel_rfl : c13_75 = .seq c13_77 c13_76), W3_seq]
theorem o13_13_eq : opsW N M G 216 V13 o13_13 k o13_13.toList [] e e w =
    (M (e 15) fun t90 =>
    M (e 10) fun t91 =>
    N (builtin Builtin.len #[40] 3 ([false]).toArray ([t91]).toArray) w fun t92 w =>
    N (xv (xbin BinOp.lss 3 (Operand.tmp 90) (Operand.tmp 92) t90 t92)) w fun t93 w =>
    k (Env.p e 93 t93) w) := nr (by kernel_rfl)
theorem c13_80_v : opV V13 (.tmp 93) = true := by kernel_rfl
theorem c13_80_s (hw : Cur w) : W3 Try.prog 216 V13 c13_80 Q e w = (condP (ev e (.tmp 93)) (Q .normal e w) (Q (.exit 2) e w)) := by rw [(by kernel_rfl : c13_80 = .cond (.tmp 93) Code.skip (Code.exit 2)), W3_cond, c13_80_v, cond_true]; simp only [W3_ret, W3_skip, W3_exit, W3_label]
theorem c13_79_s (hw : Cur w) : W3 Try.prog 216 V13 c13_79 Q e w = (opsW (nx Try.prog) mv gdP 216 V13 o13_13 (fun e w => W3 Try.prog 216 V13 c13_80 Q e w) o13_13.toList [] e e w) := by rw [(by kernel_rfl : c13_79 = .seq (.region 13 o13_13 false) c13_80), W3_seq_reg]
theorem c13_74_s (hw : Cur w) : W3 Try.prog 216 V13 c13_74 Q e w = (W3 Try.prog 216 V13 c13_79 (seqQ (fun e w => W3 Try.prog 216 V13 c13_75 Q e w) Q) e w) := by rw [(by kernel_rfl : c13_74 = .seq c13_79 c13_75), W3_seq]
theorem c13_73_s (hw : Cur w) : W3 Try.prog 216 V13 c13_73 Q e w = (LoopP (fun e w k => W3 Try.prog 216 V13 c13_74 (seqQ k Q) e w) e w) := by rw [(by kernel_rfl : c13_73 = .loop c13_74), W3_loop]
theorem c13_72_s (hw : Cur w) : W3 Try.prog 216 V13 c13_72 Q e w = (W3 Try.prog 216 V13 c13_73 (blockQ 2 Q) e w) := by rw [(by kernel_rfl : c13_72 = .block 2 c13_73), W3_block]
theorem c13_71_s (hw : Cur w) : W3 Try.prog 216 V13 c13_71 Q e w = (opsW (nx Try.prog) mv gdP 216 V13 o13_12 (fun e w => W3 Try.prog 216 V13 c13_72 Q e w) o13_12.toList [] e e w) := by rw [(by kernel_rfl : c13_71 = .seq (.region 12 o13_12 false) c13_72), W3_seq_reg]
theorem o13_10_eq : opsW N M G 216 V13 o13_10 k o13_10.toList [] e e w =
    (M (e 11) fun t69 =>
    M (e 13) fun t70 =>
    N (xv (xbin BinOp.neq 2 (Operand.tmp 69) (Operand.tmp 70) t69 t70)) w fun t71 w =>
    M t71 fun t72 =>
    G (isB t72 false) (fun K => M (e 12) fun v => K v w) (fun t73 w =>
    G (isB t72 false) (fun K => M (e 14) fun v => K v w) (fun t74 w =>
    G (isB t72 false) (fun K => N (xv (xbin BinOp.neq 3 (Operand.tmp 73) (Operand.tmp 74) t73 t74)) w K) (fun t75 w =>
    N (xpick t72 (Value.bool true) t75) w fun t76 w =>
    M t76 fun t77 =>
    G (isB t77 false) (fun K => M (e 10) fun v => K v w) (fun t78 w =>
    G (isB t77 false) (fun K => M (e 1) fun v => K v w) (fun t79 w =>
    G (isB t77 false) (fun K => M (e 9) fun v => K v w) (fun t80 w =>
    G (isB t77 false) (fun K => N (xv (Instr.indexAt 90 t79 t80)) w K) (fun t81 w =>
    G (isB t77 false) (fun K => N (xv (Instr.fieldAt 95 t81 1)) w K) (fun t82 w =>
    G (isB t77 false) (fun K => N (xv (Instr.loadAt 40 t82)) w K) (fun t83 w =>
    G (isB t77 false) (fun K => N (builtin Builtin.len #[40] 3 ([false]).toArray ([t83]).toArray) w K) (fun t84 w =>
    G (isB t77 false) (fun K => N (xv (Instr.indexAt 40 t78 t84)) w K) (fun t85 w =>
    G (isB t77 false) (fun K => N (xv (Instr.fieldAt 44 t85 0)) w K) (fun t86 w =>
    G (isB t77 false) (fun K => N (xv (Instr.loadAt 9 t86)) w K) (fun t87 w =>
    G (isB t77 false) (fun K => N (xv (xbin BinOp.neq 9 (Operand.tmp 87) (Operand.const (Value.string ⟨#[115, 112, 97, 114, 101]⟩)) t87 (Value.string ⟨#[115, 112, 97, 114, 101]⟩))) w K) (fun t88 w =>
    N (xpick t77 (Value.bool true) t88) w fun t89 w =>
    k (Env.p e 89 t89) w) w) w) w) w) w) w) w) w) w) w) w) w) w) w) := nr (by kernel_rfl)
theorem o13_11_eq : opsW N M G 216 V13 o13_11 k o13_11.toList [] e e w =
    (M (Value.bool false) fun t6 =>
    k (Env.p e 6 t6) w) := nr (by kernel_rfl)
theorem c13_83_s (hw : Cur w) : W3 Try.prog 216 V13 c13_83 Q e w = (opsW (nx Try.prog) mv gdP 216 V13 o13_11 (fun e w => Q .ret e w) o13_11.toList [] e e w) := by rw [(by kernel_rfl : c13_83 = .seq (.region 11 o13_11 false) Code.ret), W3_seq_reg]; simp only [W3_ret, W3_skip, W3_exit, W3_label]
theorem c13_82_v : opV V13 (.tmp 89) = true := by kernel_rfl
theorem c13_82_s (hw : Cur w) : W3 Try.prog 216 V13 c13_82 Q e w = (condP (ev e (.tmp 89)) (W3 Try.prog 216 V13 c13_83 Q e w) (Q .normal e w)) := by rw [(by kernel_rfl : c13_82 = .cond (.tmp 89) c13_83 Code.skip), W3_cond, c13_82_v, cond_true]; simp only [W3_ret, W3_skip, W3_exit, W3_label]
theorem c13_81_s (hw : Cur w) : W3 Try.prog 216 V13 c13_81 Q e w = (opsW (nx Try.prog) mv gdP 216 V13 o13_10 (fun e w => W3 Try.prog 216 V13 c13_82 Q e w) o13_10.toList [] e e w) := by rw [(by kernel_rfl : c13_81 = .seq (.region 10 o13_10 false) c13_82), W3_seq_reg]
theorem c13_70_s (hw : Cur w) : W3 Try.prog 216 V13 c13_70 Q e w = (W3 Try.prog 216 V13 c13_81 (seqQ (fun e w => W3 Try.prog 216 V13 c13_71 Q e w) Q) e w) := by rw [(by kernel_rfl : c13_70 = .seq c13_81 c13_71), W3_seq]
theorem c13_69_s (hw : Cur w) : W3 Try.prog 216 V13 c13_69 Q e w = (opsW (nx Try.prog) mv gdP 216 V13 o13_9 (fun e w => W3 Try.prog 216 V13 c13_70 Q e w) o13_9.toList [] e e w) := by rw [(by kernel_rfl : c13_69 = .seq (.region 9 o13_9 false) c13_70), W3_seq_reg]
theorem c13_68_s (hw : Cur w) : W3 Try.prog 216 V13 c13_68 Q e w = (opsW (nx Try.prog) mv gdP 216 V13 o13_8 (fun e w => W3 Try.prog 216 V13 c13_69 Q e w) o13_8.toList [] e e w) := by rw [(by kernel_rfl : c13_68 = .seq (.region 8 o13_8 false) c13_69), W3_seq_reg]
theorem c13_67_s (hw : Cur w) : W3 Try.prog 216 V13 c13_67 Q e w = (opsW (nx Try.prog) mv gdP 216 V13 o13_7 (fun e w => W3 Try.prog 216 V13 c13_68 Q e w) o13_7.toList [] e e w) := by rw [(by kernel_rfl : c13_67 = .seq (.region 7 o13_7 false) c13_68), W3_seq_reg]
theorem c13_66_s (hw : Cur w) : W3 Try.prog 216 V13 c13_66 Q e w = (W3 Try.prog 216 V13 c13_67 (blockQ 1 Q) e w) := by rw [(by kernel_rfl : c13_66 = .block 1 c13_67), W3_block]
theorem c13_64_s (hw : Cur w) : W3 Try.prog 216 V13 c13_64 Q e w = (W3 Try.prog 216 V13 c13_66 (seqQ (fun e w => W3 Try.prog 216 V13 c13_65 Q e w) Q) e w) := by rw [(by kernel_rfl : c13_64 = .seq c13_66 c13_65), W3_seq]
theorem o13_5_eq : opsW N M G 216 V13 o13_5 k o13_5.toList [] e e w =
    (M (e 9) fun t30 =>
    M (e 1) fun t31 =>
    N (builtin Builtin.len #[90] 3 ([false]).toArray ([t31]).toArray) w fun t32 w =>
    N (xv (xbin BinOp.lss 3 (Operand.tmp 30) (Operand.tmp 32) t30 t32)) w fun t33 w =>
    k (Env.p e 33 t33) w) := nr (by kernel_rfl)
theorem c13_85_v : opV V13 (.tmp 33) = true := by kernel_rfl
theorem c13_85_s (hw : Cur w) : W3 Try.prog 216 V13 c13_85 Q e w = (condP (ev e (.tmp 33)) (Q .normal e w) (Q (.exit 0) e w)) := by rw [(by kernel_rfl : c13_85 = .cond (.tmp 33) Code.skip (Code.exit 0)), W3_cond, c13_85_v, cond_true]; simp only [W3_ret, W3_skip, W3_exit, W3_label]
theorem c13_84_s (hw : Cur w) : W3 Try.prog 216 V13 c13_84 Q e w = (opsW (nx Try.prog) mv gdP 216 V13 o13_5 (fun e w => W3 Try.prog 216 V13 c13_85 Q e w) o13_5.toList [] e e w) := by rw [(by kernel_rfl : c13_84 = .seq (.region 5 o13_5 false) c13_85), W3_seq_reg]
theorem c13_63_s (hw : Cur w) : W3 Try.prog 216 V13 c13_63 Q e w = (W3 Try.prog 216 V13 c13_84 (seqQ (fun e w => W3 Try.prog 216 V13 c13_64 Q e w) Q) e w) := by rw [(by kernel_rfl : c13_63 = .seq c13_84 c13_64), W3_seq]
theorem c13_62_s (hw : Cur w) : W3 Try.prog 216 V13 c13_62 Q e w = (LoopP (fun e w k => W3 Try.prog 216 V13 c13_63 (seqQ k Q) e w) e w) := by rw [(by kernel_rfl : c13_62 = .loop c13_63), W3_loop]
theorem c13_61_s (hw : Cur w) : W3 Try.prog 216 V13 c13_61 Q e w = (W3 Try.prog 216 V13 c13_62 (blockQ 0 Q) e w) := by rw [(by kernel_rfl : c13_61 = .block 0 c13_62), W3_block]
theorem c13_60_s (hw : Cur w) : W3 Try.prog 216 V13 c13_60 Q e w = (opsW (nx Try.prog) mv gdP 216 V13 o13_4 (fun e w => W3 Try.prog 216 V13 c13_61 Q e w) o13_4.toList [] e e w) := by rw [(by kernel_rfl : c13_60 = .seq (.region 4 o13_4 false) c13_61), W3_seq_reg]
theorem c13_3_s (hw : Cur w) : W3 Try.prog 216 V13 c13_3 Q e w = (W3 Try.prog 216 V13 c13_60 (seqQ (fun e w => W3 Try.prog 216 V13 c13_4 Q e w) Q) e w) := by rw [(by kernel_rfl : c13_3 = .seq c13_60 c13_4), W3_seq]
theorem c13_2_s (hw : Cur w) : W3 Try.prog 216 V13 c13_2 Q e w = (opsW (nx Try.prog) mv gdP 216 V13 o13_3 (fun e w => W3 Try.prog 216 V13 c13_3 Q e w) o13_3.toList [] e e w) := by rw [(by kernel_rfl : c13_2 = .seq (.region 3 o13_3 false) c13_3), W3_seq_reg]
theorem o13_1_eq : opsW N M G 216 V13 o13_1 k o13_1.toList [] e e w =
    (N (xcall (Value.func (Fn.func 15) #[] #[]) []) w fun t24 w =>
    N (xv (Op.unary UnOp.not t24)) w fun t25 w =>
    k (Env.p e 25 t25) w) := nr (by kernel_rfl)
theorem o13_2_eq : opsW N M G 216 V13 o13_2 k o13_2.toList [] e e w =
    (M (Value.bool false) fun t6 =>
    k (Env.p e 6 t6) w) := nr (by kernel_rfl)
theorem c13_88_s (hw : Cur w) : W3 Try.prog 216 V13 c13_88 Q e w = (opsW (nx Try.prog) mv gdP 216 V13 o13_2 (fun e w => Q .ret e w) o13_2.toList [] e e w) := by rw [(by kernel_rfl : c13_88 = .seq (.region 2 o13_2 false) Code.ret), W3_seq_reg]; simp only [W3_ret, W3_skip, W3_exit, W3_label]
theorem c13_87_v : opV V13 (.tmp 25) = true := by kernel_rfl
theorem c13_87_s (hw : Cur w) : W3 Try.prog 216 V13 c13_87 Q e w = (condP (ev e (.tmp 25)) (W3 Try.prog 216 V13 c13_88 Q e w) (Q .normal e w)) := by rw [(by kernel_rfl : c13_87 = .cond (.tmp 25) c13_88 Code.skip), W3_cond, c13_87_v, cond_true]; simp only [W3_ret, W3_skip, W3_exit, W3_label]
theorem c13_86_s (hw : Cur w) : W3 Try.prog 216 V13 c13_86 Q e w = (opsW (nx Try.prog) mv gdP 216 V13 o13_1 (fun e w => W3 Try.prog 216 V13 c13_87 Q e w) o13_1.toList [] e e w) := by rw [(by kernel_rfl : c13_86 = .seq (.region 1 o13_1 false) c13_87), W3_seq_reg]
theorem c13_1_s (hw : Cur w) : W3 Try.prog 216 V13 c13_1 Q e w = (W3 Try.prog 216 V13 c13_86 (seqQ (fun e w => W3 Try.prog 216 V13 c13_2 Q e w) Q) e w) := by rw [(by kernel_rfl : c13_1 = .seq c13_86 c13_2), W3_seq]
theorem c13_s (hw : Cur w) : W3 Try.prog 216 V13 c13 Q e w = (opsW (nx Try.prog) mv gdP 216 V13 o13_0 (fun e w => W3 Try.prog 216 V13 c13_1 Q e w) o13_0.toList [] e e w) := by rw [(by kernel_rfl : c13 = .seq (.region 0 o13_0 false) c13_1), W3_seq_reg]
theorem call13 {a0 a1 a2 : Value} {w : World} {R : Value → World → Prop} (h : W3 Try.prog 216 V13 c13 (retQ Try.prog [.tmp 6] R) (argE [a0, a1, a2]) w) : CallsN Try.prog 13 [a0, a1, a2] w R :=
  callsN_of_W3 (c := c13) (rs := [.tmp 6]) V13 Try.ntmps13 (by rw [Try.results13]) mixed Try.func13 (by kernel_rfl) (by kernel_rfl) (by kernel_rfl) (by kernel_rfl) (by simp) h
noncomputable def hk13 := And.intro (@o13_0_eq) <| And.intro (@o13_3_eq) <| And.intro (@o13_16_eq) <| And.intro (@o13_19_eq) <| And.intro (@o13_39_eq) <| And.intro (@c13_10_s) <| And.intro (@o13_34_eq) <| And.intro (@o13_36_eq) <| And.intro (@c13_16_s) <| And.intro (@o13_37_eq) <| And.intro (@o13_38_eq) <| And.intro (@c13_20_s) <| And.intro (@c13_19_s) <| And.intro (@c13_18_s) <| And.intro (@c13_17_s) <| And.intro (@c13_15_s) <| And.intro (@o13_35_eq) <| And.intro (@c13_22_s) <| And.intro (@c13_21_s) <| And.intro (@c13_14_s) <| And.intro (@c13_13_s) <| And.intro (@c13_12_s) <| And.intro (@c13_11_s) <| And.intro (@c13_9_s) <| And.intro (@o13_29_eq) <| And.intro (@o13_31_eq) <| And.intro (@c13_28_s) <| And.intro (@o13_32_eq) <| And.intro (@o13_33_eq) <| And.intro (@c13_32_s) <| And.intro (@c13_31_s) <| And.intro (@c13_30_s) <| And.intro (@c13_29_s) <| And.intro (@c13_27_s) <| And.intro (@o13_30_eq) <| And.intro (@c13_34_s) <| And.intro (@c13_33_s) <| And.intro (@c13_26_s) <| And.intro (@c13_25_s) <| And.intro (@c13_24_s) <| And.intro (@c13_23_s) <| And.intro (@c13_8_s) <| And.intro (@o13_20_eq) <| And.intro (@o13_22_eq) <| And.intro (@c13_40_s) <| And.intro (@o13_23_eq) <| And.intro (@o13_28_eq) <| And.intro (@c13_44_s) <| And.intro (@o13_24_eq) <| And.intro (@o13_26_eq) <| And.intro (@c13_50_s) <| And.intro (@o13_27_eq) <| And.intro (@c13_52_s) <| And.intro (@c13_51_s) <| And.intro (@c13_49_s) <| And.intro (@o13_25_eq) <| And.intro (@c13_54_s) <| And.intro (@c13_53_s) <| And.intro (@c13_48_s) <| And.intro (@c13_47_s) <| And.intro (@c13_46_s) <| And.intro (@c13_45_s) <| And.intro (@c13_43_s) <| And.intro (@c13_42_s) <| And.intro (@c13_41_s) <| And.intro (@c13_39_s) <| And.intro (@o13_21_eq) <| And.intro (@c13_56_s) <| And.intro (@c13_55_s) <| And.intro (@c13_38_s) <| And.intro (@c13_37_s) <| And.intro (@c13_36_s) <| And.intro (@c13_35_s) <| And.intro (@c13_7_s) <| And.intro (@c13_6_s) <| And.intro (@o13_17_eq) <| And.intro (@o13_18_eq) <| And.intro (@c13_59_s) <| And.intro (@c13_58_s) <| And.intro (@c13_57_s) <| And.intro (@c13_5_s) <| And.intro (@c13_4_s) <| And.intro (@o13_4_eq) <| And.intro (@o13_6_eq) <| And.intro (@c13_65_s) <| And.intro (@o13_7_eq) <| And.intro (@o13_8_eq) <| And.intro (@o13_9_eq) <| And.intro (@o13_12_eq) <| And.intro (@o13_14_eq) <| And.intro (@c13_76_s) <| And.intro (@o13_15_eq) <| And.intro (@c13_78_s) <| And.intro (@c13_77_s) <| And.intro (@c13_75_s) <| And.intro (@o13_13_eq) <| And.intro (@c13_80_s) <| And.intro (@c13_79_s) <| And.intro (@c13_74_s) <| And.intro (@c13_73_s) <| And.intro (@c13_72_s) <| And.intro (@c13_71_s) <| And.intro (@o13_10_eq) <| And.intro (@o13_11_eq) <| And.intro (@c13_83_s) <| And.intro (@c13_82_s) <| And.intro (@c13_81_s) <| And.intro (@c13_70_s) <| And.intro (@c13_69_s) <| And.intro (@c13_68_s) <| And.intro (@c13_67_s) <| And.intro (@c13_66_s) <| And.intro (@c13_64_s) <| And.intro (@o13_5_eq) <| And.intro (@c13_85_s) <| And.intro (@c13_84_s) <| And.intro (@c13_63_s) <| And.intro (@c13_62_s) <| And.intro (@c13_61_s) <| And.intro (@c13_60_s) <| And.intro (@c13_3_s) <| And.intro (@c13_2_s) <| And.intro (@o13_1_eq) <| And.intro (@o13_2_eq) <| And.intro (@c13_88_s) <| And.intro (@c13_87_s) <| And.intro (@c13_86_s) <| And.intro (@c13_1_s) <| @c13_s
-- K13: ↓hk13
end
end Go.Proofs.Ytenokheiindfkaa
