/- The equations of the code of some functions, written by the printer gen.py: each is checked by the kernel. -/
import Derived.Test.YtldmkhakjnglmaaQ0
import Derived.Test.YtldmkhakjnglmaaCB
set_option linter.unusedVariables false
set_option linter.unusedSimpArgs false
set_option maxRecDepth 100000
namespace Go.Proofs.Ytldmkhakjnglmaa
open Go.VW
noncomputable section
set_option linter.defProp false
variable {N : Sem Next → World → (Value → World → Prop) → Prop} {T : Sem Next → (Value → Prop) → Prop} {M : Value → (Value → Prop) → Prop} {G : Bool → ((Value → World → Prop) → Prop) → (Value → World → Prop) → World → Prop}
  {H : Bool → ((Value → Prop) → Prop) → (Value → Prop) → Prop} {S : World → Prop} {k : Env → World → Prop} {Q : Exit → Env → World → Prop} {e : Env} {w : World}
  {T2 : Nat → Sem Next → (Value → Prop) → Prop} {S2 : Nat → World → Prop}
/-! ### (*vouch/table.Table) . Put -/
def V15 : Nat → Bool := fun i => [0, 1, 3, 4, 5, 6, 15, 29].elem i
noncomputable def c15 : Code := (Try.f15.body.getD .skip)
noncomputable def o15_0 : Array Oper := rO (cL c15)
noncomputable def c15_1 : Code := (cR c15)
noncomputable def c15_2 : Code := (cR c15_1)
noncomputable def o15_3 : Array Oper := rO (cL c15_2)
noncomputable def c15_3 : Code := (cR c15_2)
noncomputable def o15_4 : Array Oper := rO (cL c15_3)
noncomputable def c15_4 : Code := (cR c15_3)
noncomputable def c15_5 : Code := (cR c15_4)
noncomputable def o15_7 : Array Oper := rO (cL c15_5)
noncomputable def c15_6 : Code := (cR c15_5)
noncomputable def o15_8 : Array Oper := rO (cL c15_6)
noncomputable def c15_7 : Code := (cR c15_6)
noncomputable def o15_9 : Array Oper := rO (cL c15_7)
noncomputable def c15_8 : Code := (cR c15_7)
noncomputable def o15_10 : Array Oper := rO (cL c15_8)
noncomputable def c15_9 : Code := (cR c15_8)
noncomputable def o15_11 : Array Oper := rO (cL c15_9)
noncomputable def c15_10 : Code := (cL c15_4)
noncomputable def o15_5 : Array Oper := rO (cL c15_10)
noncomputable def c15_11 : Code := (cR c15_10)
noncomputable def c15_12 : Code := (cL c15_11)
noncomputable def o15_6 : Array Oper := rO c15_12
noncomputable def c15_13 : Code := (cL c15_1)
noncomputable def o15_1 : Array Oper := rO (cL c15_13)
noncomputable def c15_14 : Code := (cR c15_13)
noncomputable def c15_15 : Code := (cL c15_14)
noncomputable def o15_2 : Array Oper := rO (cL c15_15)
theorem o15_0_eq : opsW N M G 75 V15 o15_0 k o15_0.toList [] e e w =
    (N (xv (Instr.box 36 (e 1))) w fun t3 w =>
    M (Value.bool false) fun t4 =>
    k (Env.p (Env.p e 3 t3) 4 t4) w) := nr (by kernel_rfl)
theorem o15_3_eq : opsW N M G 75 V15 o15_3 k o15_3.toList [] e e w =
    (N (xv (Instr.fieldAt 36 (e 3) 0)) w fun t16 w =>
    N (xv (Instr.fieldAt 34 t16 0)) w fun t17 w =>
    N (xv (Instr.loadAt 9 t17)) w fun t18 w =>
    M t18 fun t5 =>
    k (Env.p e 5 t5) w) := nr (by kernel_rfl)
theorem o15_4_eq : opsW N M G 75 V15 o15_4 k o15_4.toList [] e e w =
    (M (e 0) fun t19 =>
    M (e 5) fun t20 =>
    N (xv (Instr.fieldAt 36 (e 3) 0)) w fun t21 w =>
    N (xv (Instr.fieldAt 34 t21 2)) w fun t22 w =>
    N (xv (Instr.loadAt 2 t22)) w fun t23 w =>
    N (xcall (Value.func (Fn.func 21) #[] #[]) [t19, t20, t23]) w fun t24 w =>
    k e w) := nr (by kernel_rfl)
theorem o15_7_eq : opsW N M G 75 V15 o15_7 k o15_7.toList [] e e w =
    (M (e 0) fun t35 =>
    M (e 5) fun t36 =>
    N (xv (Instr.fieldAt 36 (e 3) 0)) w fun t37 w =>
    N (xv (Instr.fieldAt 34 t37 2)) w fun t38 w =>
    N (xv (Instr.loadAt 2 t38)) w fun t39 w =>
    N (xcall (Value.func (Fn.func 31) #[] #[]) [t35, t36, t39]) w fun t40 w =>
    M t40 fun t34 =>
    N (xv (Instr.extract t34 0)) w fun t41 w =>
    N (xv (Instr.extract t34 1)) w fun t42 w =>
    M t41 fun t6 =>
    M t42 fun t7 =>
    k (Env.p e 6 t6) w) := nr (by kernel_rfl)
theorem o15_8_eq : drawGo2 N T2 M G H 75 V15 o15_8 S2 k o15_8.size [] (Array.replicate o15_8.size false) [] e e w =
    (S2 0 w ∧ (M (e 0) fun t43 =>
    S2 1 w ∧ (T2 1 (xnil t43) fun t44 =>
    S2 2 w ∧ (T2 2 (xv (Instr.fieldAt 56 t44 0)) fun t45 =>
    S2 3 w ∧ (T2 3 (xv (Instr.loadAt 54 t45)) fun t46 =>
    S2 4 w ∧ (M (e 5) fun t47 =>
    S2 5 w ∧ (M (e 0) fun t48 =>
    S2 6 w ∧ (T2 6 (xnil t48) fun t49 =>
    S2 7 w ∧ (T2 7 (xv (Instr.fieldAt 56 t49 0)) fun t50 =>
    S2 8 w ∧ (T2 8 (xv (Instr.loadAt 54 t50)) fun t51 =>
    S2 9 w ∧ (M (e 5) fun t52 =>
    S2 10 w ∧ (T2 10 (xv (Instr.lookup 54 t51 t52 false)) fun t53 =>
    S2 11 w ∧ (M (e 6) fun t54 =>
    S2 12 w ∧ (T2 12 (xv (Instr.loadAt 36 (e 3))) fun t55 =>
    N (xv (Instr.buildSlice 27 1 ([(0, t55)]).toArray)) w fun t56 w =>
    S2 11 w ∧ (S2 10 w ∧ (S2 9 w ∧ (S2 8 w ∧ (S2 7 w ∧ (S2 6 w ∧ (S2 5 w ∧ (S2 4 w ∧ (S2 3 w ∧ (S2 2 w ∧ (S2 1 w ∧ (S2 0 w ∧ (N (xcall (Value.func (Fn.func 32) #[] #[]) [t53, t54, t56]) w fun t57 w =>
    S2 9 w ∧ (S2 8 w ∧ (S2 7 w ∧ (S2 6 w ∧ (S2 5 w ∧ (S2 4 w ∧ (S2 3 w ∧ (S2 2 w ∧ (S2 1 w ∧ (S2 0 w ∧ (N (xu (Instr.mapUpdate 54 t46 t47 t57)) w fun _ w =>
    k e w)))))))))))))))))))))))))))))))))))) := nr (by kernel_rfl)
theorem o15_9_eq : opsW N M G 75 V15 o15_9 k o15_9.toList [] e e w =
    (M (e 0) fun t58 =>
    N (xnil t58) w fun t59 w =>
    N (xv (Instr.fieldAt 56 t59 1)) w fun t60 w =>
    N (xv (Instr.loadAt 3 t60)) w fun t61 w =>
    N (xv (xbin BinOp.add 3 (Operand.tmp 61) (Operand.const (Value.int IntKind.i64 1)) t61 (Value.int IntKind.i64 1))) w fun t62 w =>
    N (xnil t58) w fun t63 w =>
    N (xv (Instr.fieldAt 56 t63 1)) w fun t64 w =>
    N (xu (Instr.storeAt 3 t64 t62)) w fun _ w =>
    k e w) := nr (by kernel_rfl)
theorem o15_10_eq : drawGo2 N T2 M G H 75 V15 o15_10 S2 k o15_10.size [] (Array.replicate o15_10.size false) [] e e w =
    (S2 0 w ∧ (M (e 0) fun t65 =>
    S2 1 w ∧ (T2 1 (xnil t65) fun t66 =>
    S2 2 w ∧ (T2 2 (xv (Instr.fieldAt 56 t66 2)) fun t67 =>
    S2 3 w ∧ (T2 3 (xv (Instr.loadAt 3 t67)) fun t68 =>
    S2 4 w ∧ (T2 4 (xv (Instr.fieldAt 36 (e 3) 0)) fun t69 =>
    S2 5 w ∧ (T2 5 (xv (Instr.loadAt 34 t69)) fun t70 =>
    N (xcall (Value.func (Fn.func 33) #[] #[]) [t70]) w fun t71 w =>
    S2 4 w ∧ (S2 3 w ∧ (S2 2 w ∧ (S2 1 w ∧ (S2 0 w ∧ (S2 7 w ∧ (T2 7 (xv (xbin BinOp.add 3 (Operand.tmp 68) (Operand.tmp 71) t68 t71)) fun t72 =>
    S2 8 w ∧ (T2 8 (xnil t65) fun t73 =>
    S2 9 w ∧ (T2 9 (xv (Instr.fieldAt 56 t73 2)) fun t74 =>
    N (xu (Instr.storeAt 3 t74 t72)) w fun _ w =>
    S2 8 w ∧ (k e w)))))))))))))))) := nr (by kernel_rfl)
theorem o15_11_eq : opsW N M G 75 V15 o15_11 k o15_11.toList [] e e w =
    (M (Value.bool true) fun t4 =>
    k (Env.p e 4 t4) w) := nr (by kernel_rfl)
theorem c15_9_s (hw : Cur w) : W2 Try.prog 75 V15 c15_9 Q e w = (opsW (nx Try.prog) mv gdP 75 V15 o15_11 (fun e w => Q .ret e w) o15_11.toList [] e e w) := by rw [(by kernel_rfl : c15_9 = .seq (.region 11 o15_11 false) Code.ret), W2_seq_reg]; simp only [W2_ret, W2_skip, W2_exit, W2_label]
theorem c15_8_s (hw : Cur w) : W2 Try.prog 75 V15 c15_8 Q e w = (∃ S : Nat → World → Prop, drawGo2 (nx Try.prog) (fun i => takeP Try.prog (S i)) mv gdP gdT 75 V15 o15_10 S (fun e w => W2 Try.prog 75 V15 c15_9 Q e w) o15_10.size [] (Array.replicate o15_10.size false) [] e e w.drew) := by rw [(by kernel_rfl : c15_8 = .seq (.region 10 o15_10 true) c15_9), W2_seq_regD]
theorem c15_7_s (hw : Cur w) : W2 Try.prog 75 V15 c15_7 Q e w = (opsW (nx Try.prog) mv gdP 75 V15 o15_9 (fun e w => W2 Try.prog 75 V15 c15_8 Q e w) o15_9.toList [] e e w) := by rw [(by kernel_rfl : c15_7 = .seq (.region 9 o15_9 false) c15_8), W2_seq_reg]
theorem c15_6_s (hw : Cur w) : W2 Try.prog 75 V15 c15_6 Q e w = (∃ S : Nat → World → Prop, drawGo2 (nx Try.prog) (fun i => takeP Try.prog (S i)) mv gdP gdT 75 V15 o15_8 S (fun e w => W2 Try.prog 75 V15 c15_7 Q e w) o15_8.size [] (Array.replicate o15_8.size false) [] e e w.drew) := by rw [(by kernel_rfl : c15_6 = .seq (.region 8 o15_8 true) c15_7), W2_seq_regD]
theorem c15_5_s (hw : Cur w) : W2 Try.prog 75 V15 c15_5 Q e w = (opsW (nx Try.prog) mv gdP 75 V15 o15_7 (fun e w => W2 Try.prog 75 V15 c15_6 Q e w) o15_7.toList [] e e w) := by rw [(by kernel_rfl : c15_5 = .seq (.region 7 o15_7 false) c15_6), W2_seq_reg]
theorem o15_5_eq : opsW N M G 75 V15 o15_5 k o15_5.toList [] e e w =
    (M (e 0) fun t25 =>
    N (xnil t25) w fun t26 w =>
    N (xv (Instr.fieldAt 56 t26 0)) w fun t27 w =>
    N (xv (Instr.loadAt 54 t27)) w fun t28 w =>
    N (xv (xbin BinOp.eql 54 (Operand.tmp 28) (Operand.const (Value.map none)) t28 (Value.map none))) w fun t29 w =>
    k (Env.p e 29 t29) w) := nr (by kernel_rfl)
theorem o15_6_eq : opsW N M G 75 V15 o15_6 k o15_6.toList [] e e w =
    (M (e 0) fun t30 =>
    N (xv (Instr.makeMap 54 none)) w fun t31 w =>
    N (xnil t30) w fun t32 w =>
    N (xv (Instr.fieldAt 56 t32 0)) w fun t33 w =>
    N (xu (Instr.storeAt 54 t33 t31)) w fun _ w =>
    k e w) := nr (by kernel_rfl)
theorem c15_12_s (hw : Cur w) : W2 Try.prog 75 V15 c15_12 Q e w = (opsW (nx Try.prog) mv gdP 75 V15 o15_6 (fun e w => Q .normal e w) o15_6.toList [] e e w) := by rw [(by kernel_rfl : c15_12 = (.region 6 o15_6 false)), W2_reg]
theorem c15_11_v : opV V15 (.tmp 29) = true := by kernel_rfl
theorem c15_11_s (hw : Cur w) : W2 Try.prog 75 V15 c15_11 Q e w = (condP (ev e (.tmp 29)) (W2 Try.prog 75 V15 c15_12 Q e w) (Q .normal e w)) := by rw [(by kernel_rfl : c15_11 = .cond (.tmp 29) c15_12 Code.skip), W2_cond, c15_11_v, cond_true]; simp only [W2_ret, W2_skip, W2_exit, W2_label]
theorem c15_10_s (hw : Cur w) : W2 Try.prog 75 V15 c15_10 Q e w = (opsW (nx Try.prog) mv gdP 75 V15 o15_5 (fun e w => W2 Try.prog 75 V15 c15_11 Q e w) o15_5.toList [] e e w) := by rw [(by kernel_rfl : c15_10 = .seq (.region 5 o15_5 false) c15_11), W2_seq_reg]
theorem c15_4_s (hw : Cur w) : W2 Try.prog 75 V15 c15_4 Q e w = (W2 Try.prog 75 V15 c15_10 (seqQ (fun e w => W2 Try.prog 75 V15 c15_5 Q e w) Q) e w) := by rw [(by kernel_rfl : c15_4 = .seq c15_10 c15_5), W2_seq]
theorem c15_3_s (hw : Cur w) : W2 Try.prog 75 V15 c15_3 Q e w = (opsW (nx Try.prog) mv gdP 75 V15 o15_4 (fun e w => W2 Try.prog 75 V15 c15_4 Q e w) o15_4.toList [] e e w) := by rw [(by kernel_rfl : c15_3 = .seq (.region 4 o15_4 false) c15_4), W2_seq_reg]
theorem c15_2_s (hw : Cur w) : W2 Try.prog 75 V15 c15_2 Q e w = (opsW (nx Try.prog) mv gdP 75 V15 o15_3 (fun e w => W2 Try.prog 75 V15 c15_3 Q e w) o15_3.toList [] e e w) := by rw [(by kernel_rfl : c15_2 = .seq (.region 3 o15_3 false) c15_3), W2_seq_reg]
theorem o15_1_eq : opsW N M G 75 V15 o15_1 k o15_1.toList [] e e w =
    (M (e 0) fun t8 =>
    N (xv (xbin BinOp.eql 24 (Operand.tmp 8) (Operand.const (Value.pointer none)) t8 (Value.pointer none))) w fun t9 w =>
    M t9 fun t10 =>
    G (isB t10 false) (fun K => N (xv (Instr.fieldAt 36 (e 3) 0)) w K) (fun t11 w =>
    G (isB t10 false) (fun K => N (xv (Instr.loadAt 34 t11)) w K) (fun t12 w =>
    G (isB t10 false) (fun K => N (xcall (Value.func (Fn.func 30) #[] #[]) [t12]) w K) (fun t13 w =>
    G (isB t10 false) (fun K => N (xv (Op.unary UnOp.not t13)) w K) (fun t14 w =>
    N (xpick t10 (Value.bool true) t14) w fun t15 w =>
    k (Env.p e 15 t15) w) w) w) w) w) := nr (by kernel_rfl)
theorem o15_2_eq : opsW N M G 75 V15 o15_2 k o15_2.toList [] e e w =
    (M (Value.bool false) fun t4 =>
    k (Env.p e 4 t4) w) := nr (by kernel_rfl)
theorem c15_15_s (hw : Cur w) : W2 Try.prog 75 V15 c15_15 Q e w = (opsW (nx Try.prog) mv gdP 75 V15 o15_2 (fun e w => Q .ret e w) o15_2.toList [] e e w) := by rw [(by kernel_rfl : c15_15 = .seq (.region 2 o15_2 false) Code.ret), W2_seq_reg]; simp only [W2_ret, W2_skip, W2_exit, W2_label]
theorem c15_14_v : opV V15 (.tmp 15) = true := by kernel_rfl
theorem c15_14_s (hw : Cur w) : W2 Try.prog 75 V15 c15_14 Q e w = (condP (ev e (.tmp 15)) (W2 Try.prog 75 V15 c15_15 Q e w) (Q .normal e w)) := by rw [(by kernel_rfl : c15_14 = .cond (.tmp 15) c15_15 Code.skip), W2_cond, c15_14_v, cond_true]; simp only [W2_ret, W2_skip, W2_exit, W2_label]
theorem c15_13_s (hw : Cur w) : W2 Try.prog 75 V15 c15_13 Q e w = (opsW (nx Try.prog) mv gdP 75 V15 o15_1 (fun e w => W2 Try.prog 75 V15 c15_14 Q e w) o15_1.toList [] e e w) := by rw [(by kernel_rfl : c15_13 = .seq (.region 1 o15_1 false) c15_14), W2_seq_reg]
theorem c15_1_s (hw : Cur w) : W2 Try.prog 75 V15 c15_1 Q e w = (W2 Try.prog 75 V15 c15_13 (seqQ (fun e w => W2 Try.prog 75 V15 c15_2 Q e w) Q) e w) := by rw [(by kernel_rfl : c15_1 = .seq c15_13 c15_2), W2_seq]
theorem c15_s (hw : Cur w) : W2 Try.prog 75 V15 c15 Q e w = (opsW (nx Try.prog) mv gdP 75 V15 o15_0 (fun e w => W2 Try.prog 75 V15 c15_1 Q e w) o15_0.toList [] e e w) := by rw [(by kernel_rfl : c15 = .seq (.region 0 o15_0 false) c15_1), W2_seq_reg]
theorem call15 {a0 a1 : Value} {w : World} {R : Value → World → Prop} (h : W2 Try.prog 75 V15 c15 (retQ Try.prog [.tmp 4] R) (argE [a0, a1]) w) : CallsN Try.prog 15 [a0, a1] w R :=
  callsN_of_W2 (c := c15) (rs := [.tmp 4]) V15 Try.ntmps15 (by rw [Try.results15]) mixed Try.func15 (by kernel_rfl) (by kernel_rfl) (by kernel_rfl) (by kernel_rfl) (by simp) h
noncomputable def hk15 := And.intro (@o15_0_eq) <| And.intro (@o15_3_eq) <| And.intro (@o15_4_eq) <| And.intro (@o15_7_eq) <| And.intro (@o15_8_eq) <| And.intro (@o15_9_eq) <| And.intro (@o15_10_eq) <| And.intro (@o15_11_eq) <| And.intro (@c15_9_s) <| And.intro (@c15_8_s) <| And.intro (@c15_7_s) <| And.intro (@c15_6_s) <| And.intro (@c15_5_s) <| And.intro (@o15_5_eq) <| And.intro (@o15_6_eq) <| And.intro (@c15_12_s) <| And.intro (@c15_11_s) <| And.intro (@c15_10_s) <| And.intro (@c15_4_s) <| And.intro (@c15_3_s) <| And.intro (@c15_2_s) <| And.intro (@o15_1_eq) <| And.intro (@o15_2_eq) <| And.intro (@c15_15_s) <| And.intro (@c15_14_s) <| And.intro (@c15_13_s) <| And.intro (@c15_1_s) <| @c15_s
-- K15: ↓hk15
/-! ### (*vouch/table.Table) . Drop -/
def V21 : Nat → Bool := fun i => [0, 1, 2, 6, 7, 8, 9, 18, 47].elem i
noncomputable def c21 : Code := (Try.f21.body.getD .skip)
noncomputable def o21_0 : Array Oper := rO (cL c21)
noncomputable def c21_1 : Code := (cR c21)
noncomputable def o21_1 : Array Oper := rO (cL c21_1)
noncomputable def c21_2 : Code := (cR c21_1)
noncomputable def c21_3 : Code := (cR c21_2)
noncomputable def o21_4 : Array Oper := rO (cL c21_3)
noncomputable def c21_4 : Code := (cR c21_3)
noncomputable def o21_5 : Array Oper := rO (cL c21_4)
noncomputable def c21_5 : Code := (cR c21_4)
noncomputable def o21_6 : Array Oper := rO (cL c21_5)
noncomputable def c21_6 : Code := (cR c21_5)
noncomputable def c21_7 : Code := (cR c21_6)
noncomputable def o21_10 : Array Oper := rO (cL c21_7)
noncomputable def c21_8 : Code := (cL c21_6)
noncomputable def o21_7 : Array Oper := rO (cL c21_8)
noncomputable def c21_9 : Code := (cR c21_8)
noncomputable def c21_10 : Code := (cL c21_9)
noncomputable def o21_8 : Array Oper := rO c21_10
noncomputable def c21_11 : Code := (cR c21_9)
noncomputable def o21_9 : Array Oper := rO c21_11
noncomputable def c21_12 : Code := (cL c21_2)
noncomputable def o21_2 : Array Oper := rO (cL c21_12)
noncomputable def c21_13 : Code := (cR c21_12)
noncomputable def c21_14 : Code := (cL c21_13)
noncomputable def o21_3 : Array Oper := rO (cL c21_14)
theorem o21_0_eq : opsW N M G 63 V21 o21_0 k o21_0.toList [] e e w =
    (M (Value.bool false) fun t6 =>
    k (Env.p e 6 t6) w) := nr (by kernel_rfl)
theorem o21_1_eq : opsW N M G 63 V21 o21_1 k o21_1.toList [] e e w =
    (M (e 0) fun t11 =>
    M (e 1) fun t12 =>
    M (e 2) fun t13 =>
    N (xcall (Value.func (Fn.func 31) #[] #[]) [t11, t12, t13]) w fun t14 w =>
    M t14 fun t10 =>
    N (xv (Instr.extract t10 0)) w fun t15 w =>
    N (xv (Instr.extract t10 1)) w fun t16 w =>
    M t15 fun t7 =>
    M t16 fun t8 =>
    k (Env.p (Env.p e 7 t7) 8 t8) w) := nr (by kernel_rfl)
theorem o21_4_eq : opsW N M G 63 V21 o21_4 k o21_4.toList [] e e w =
    (M (e 0) fun t19 =>
    N (xnil t19) w fun t20 w =>
    N (xv (Instr.fieldAt 56 t20 0)) w fun t21 w =>
    N (xv (Instr.loadAt 54 t21)) w fun t22 w =>
    M (e 1) fun t23 =>
    N (xv (Instr.lookup 54 t22 t23 false)) w fun t24 w =>
    M t24 fun t9 =>
    k (Env.p e 9 t9) w) := nr (by kernel_rfl)
theorem o21_5_eq : opsW N M G 63 V21 o21_5 k o21_5.toList [] e e w =
    (M (e 0) fun t25 =>
    N (xnil t25) w fun t26 w =>
    N (xv (Instr.fieldAt 56 t26 1)) w fun t27 w =>
    N (xv (Instr.loadAt 3 t27)) w fun t28 w =>
    N (xv (xbin BinOp.sub 3 (Operand.tmp 28) (Operand.const (Value.int IntKind.i64 1)) t28 (Value.int IntKind.i64 1))) w fun t29 w =>
    N (xnil t25) w fun t30 w =>
    N (xv (Instr.fieldAt 56 t30 1)) w fun t31 w =>
    N (xu (Instr.storeAt 3 t31 t29)) w fun _ w =>
    k e w) := nr (by kernel_rfl)
theorem o21_6_eq : drawGo2 N T2 M G H 63 V21 o21_6 S2 k o21_6.size [] (Array.replicate o21_6.size false) [] e e w =
    (S2 0 w ∧ (M (e 0) fun t32 =>
    S2 1 w ∧ (T2 1 (xnil t32) fun t33 =>
    S2 2 w ∧ (T2 2 (xv (Instr.fieldAt 56 t33 2)) fun t34 =>
    S2 3 w ∧ (T2 3 (xv (Instr.loadAt 3 t34)) fun t35 =>
    S2 4 w ∧ (M (e 9) fun t36 =>
    S2 5 w ∧ (M (e 7) fun t37 =>
    S2 6 w ∧ (T2 6 (xv (Instr.indexAt 27 t36 t37)) fun t38 =>
    S2 7 w ∧ (T2 7 (xv (Instr.fieldAt 36 t38 0)) fun t39 =>
    S2 8 w ∧ (T2 8 (xv (Instr.loadAt 34 t39)) fun t40 =>
    N (xcall (Value.func (Fn.func 33) #[] #[]) [t40]) w fun t41 w =>
    S2 7 w ∧ (S2 6 w ∧ (S2 5 w ∧ (S2 4 w ∧ (S2 3 w ∧ (S2 2 w ∧ (S2 1 w ∧ (S2 0 w ∧ (S2 10 w ∧ (T2 10 (xv (xbin BinOp.sub 3 (Operand.tmp 35) (Operand.tmp 41) t35 t41)) fun t42 =>
    S2 11 w ∧ (T2 11 (xnil t32) fun t43 =>
    S2 12 w ∧ (T2 12 (xv (Instr.fieldAt 56 t43 2)) fun t44 =>
    N (xu (Instr.storeAt 3 t44 t42)) w fun _ w =>
    S2 11 w ∧ (k e w)))))))))))))))))))))) := nr (by kernel_rfl)
theorem o21_10_eq : opsW N M G 63 V21 o21_10 k o21_10.toList [] e e w =
    (M (Value.bool true) fun t6 =>
    k (Env.p e 6 t6) w) := nr (by kernel_rfl)
theorem c21_7_s (hw : Cur w) : W2 Try.prog 63 V21 c21_7 Q e w = (opsW (nx Try.prog) mv gdP 63 V21 o21_10 (fun e w => Q .ret e w) o21_10.toList [] e e w) := by rw [(by kernel_rfl : c21_7 = .seq (.region 10 o21_10 false) Code.ret), W2_seq_reg]; simp only [W2_ret, W2_skip, W2_exit, W2_label]
theorem o21_7_eq : opsW N M G 63 V21 o21_7 k o21_7.toList [] e e w =
    (M (e 9) fun t45 =>
    N (builtin Builtin.len #[27] 3 ([false]).toArray ([t45]).toArray) w fun t46 w =>
    N (xv (xbin BinOp.eql 3 (Operand.tmp 46) (Operand.const (Value.int IntKind.i64 1)) t46 (Value.int IntKind.i64 1))) w fun t47 w =>
    k (Env.p e 47 t47) w) := nr (by kernel_rfl)
theorem o21_8_eq : opsW N M G 63 V21 o21_8 k o21_8.toList [] e e w =
    (M (e 0) fun t48 =>
    N (xnil t48) w fun t49 w =>
    N (xv (Instr.fieldAt 56 t49 0)) w fun t50 w =>
    N (xv (Instr.loadAt 54 t50)) w fun t51 w =>
    M (e 1) fun t52 =>
    N (builtin Builtin.delete #[54, 9] 0 ([false, false]).toArray ([t51, t52]).toArray) w fun _ w =>
    k e w) := nr (by kernel_rfl)
theorem c21_10_s (hw : Cur w) : W2 Try.prog 63 V21 c21_10 Q e w = (opsW (nx Try.prog) mv gdP 63 V21 o21_8 (fun e w => Q .normal e w) o21_8.toList [] e e w) := by rw [(by kernel_rfl : c21_10 = (.region 8 o21_8 false)), W2_reg]
theorem o21_9_eq : drawGo2 N T2 M G H 63 V21 o21_9 S2 k o21_9.size [] (Array.replicate o21_9.size false) [] e e w =
    (S2 0 w ∧ (M (e 0) fun t53 =>
    S2 1 w ∧ (T2 1 (xnil t53) fun t54 =>
    S2 2 w ∧ (T2 2 (xv (Instr.fieldAt 56 t54 0)) fun t55 =>
    S2 3 w ∧ (T2 3 (xv (Instr.loadAt 54 t55)) fun t56 =>
    S2 4 w ∧ (M (e 1) fun t57 =>
    S2 5 w ∧ (M (e 9) fun t58 =>
    S2 6 w ∧ (M (e 7) fun t59 =>
    S2 7 w ∧ (M (e 7) fun t60 =>
    S2 8 w ∧ (T2 8 (xv (xbin BinOp.add 3 (Operand.tmp 60) (Operand.const (Value.int IntKind.i64 1)) t60 (Value.int IntKind.i64 1))) fun t61 =>
    N (xcall (Value.func (Fn.func 37) #[] #[]) [t58, t59, t61]) w fun t62 w =>
    S2 7 w ∧ (S2 4 w ∧ (S2 3 w ∧ (S2 2 w ∧ (S2 1 w ∧ (S2 0 w ∧ (N (xu (Instr.mapUpdate 54 t56 t57 t62)) w fun _ w =>
    k e w)))))))))))))))) := nr (by kernel_rfl)
theorem c21_11_s (hw : Cur w) : W2 Try.prog 63 V21 c21_11 Q e w = (∃ S : Nat → World → Prop, drawGo2 (nx Try.prog) (fun i => takeP Try.prog (S i)) mv gdP gdT 63 V21 o21_9 S (fun e w => Q .normal e w) o21_9.size [] (Array.replicate o21_9.size false) [] e e w.drew) := by rw [(by kernel_rfl : c21_11 = (.region 9 o21_9 true)), W2_regD']
theorem c21_9_v : opV V21 (.tmp 47) = true := by kernel_rfl
theorem c21_9_s (hw : Cur w) : W2 Try.prog 63 V21 c21_9 Q e w = (condP (ev e (.tmp 47)) (W2 Try.prog 63 V21 c21_10 Q e w) (W2 Try.prog 63 V21 c21_11 Q e w)) := by rw [(by kernel_rfl : c21_9 = .cond (.tmp 47) c21_10 c21_11), W2_cond, c21_9_v, cond_true]
theorem c21_8_s (hw : Cur w) : W2 Try.prog 63 V21 c21_8 Q e w = (opsW (nx Try.prog) mv gdP 63 V21 o21_7 (fun e w => W2 Try.prog 63 V21 c21_9 Q e w) o21_7.toList [] e e w) := by rw [(by kernel_rfl : c21_8 = .seq (.region 7 o21_7 false) c21_9), W2_seq_reg]
theorem c21_6_s (hw : Cur w) : W2 Try.prog 63 V21 c21_6 Q e w = (W2 Try.prog 63 V21 c21_8 (seqQ (fun e w => W2 Try.prog 63 V21 c21_7 Q e w) Q) e w) := by rw [(by kernel_rfl : c21_6 = .seq c21_8 c21_7), W2_seq]
theorem c21_5_s (hw : Cur w) : W2 Try.prog 63 V21 c21_5 Q e w = (∃ S : Nat → World → Prop, drawGo2 (nx Try.prog) (fun i => takeP Try.prog (S i)) mv gdP gdT 63 V21 o21_6 S (fun e w => W2 Try.prog 63 V21 c21_6 Q e w) o21_6.size [] (Array.replicate o21_6.size false) [] e e w.drew) := by rw [(by kernel_rfl : c21_5 = .seq (.region 6 o21_6 true) c21_6), W2_seq_regD]
theorem c21_4_s (hw : Cur w) : W2 Try.prog 63 V21 c21_4 Q e w = (opsW (nx Try.prog) mv gdP 63 V21 o21_5 (fun e w => W2 Try.prog 63 V21 c21_5 Q e w) o21_5.toList [] e e w) := by rw [(by kernel_rfl : c21_4 = .seq (.region 5 o21_5 false) c21_5), W2_seq_reg]
theorem c21_3_s (hw : Cur w) : W2 Try.prog 63 V21 c21_3 Q e w = (opsW (nx Try.prog) mv gdP 63 V21 o21_4 (fun e w => W2 Try.prog 63 V21 c21_4 Q e w) o21_4.toList [] e e w) := by rw [(by kernel_rfl : c21_3 = .seq (.region 4 o21_4 false) c21_4), W2_seq_reg]
theorem o21_2_eq : opsW N M G 63 V21 o21_2 k o21_2.toList [] e e w =
    (M (e 8) fun t17 =>
    N (xv (Op.unary UnOp.not t17)) w fun t18 w =>
    k (Env.p e 18 t18) w) := nr (by kernel_rfl)
theorem o21_3_eq : opsW N M G 63 V21 o21_3 k o21_3.toList [] e e w =
    (M (Value.bool false) fun t6 =>
    k (Env.p e 6 t6) w) := nr (by kernel_rfl)
theorem c21_14_s (hw : Cur w) : W2 Try.prog 63 V21 c21_14 Q e w = (opsW (nx Try.prog) mv gdP 63 V21 o21_3 (fun e w => Q .ret e w) o21_3.toList [] e e w) := by rw [(by kernel_rfl : c21_14 = .seq (.region 3 o21_3 false) Code.ret), W2_seq_reg]; simp only [W2_ret, W2_skip, W2_exit, W2_label]
theorem c21_13_v : opV V21 (.tmp 18) = true := by kernel_rfl
theorem c21_13_s (hw : Cur w) : W2 Try.prog 63 V21 c21_13 Q e w = (condP (ev e (.tmp 18)) (W2 Try.prog 63 V21 c21_14 Q e w) (Q .normal e w)) := by rw [(by kernel_rfl : c21_13 = .cond (.tmp 18) c21_14 Code.skip), W2_cond, c21_13_v, cond_true]; simp only [W2_ret, W2_skip, W2_exit, W2_label]
theorem c21_12_s (hw : Cur w) : W2 Try.prog 63 V21 c21_12 Q e w = (opsW (nx Try.prog) mv gdP 63 V21 o21_2 (fun e w => W2 Try.prog 63 V21 c21_13 Q e w) o21_2.toList [] e e w) := by rw [(by kernel_rfl : c21_12 = .seq (.region 2 o21_2 false) c21_13), W2_seq_reg]
theorem c21_2_s (hw : Cur w) : W2 Try.prog 63 V21 c21_2 Q e w = (W2 Try.prog 63 V21 c21_12 (seqQ (fun e w => W2 Try.prog 63 V21 c21_3 Q e w) Q) e w) := by rw [(by kernel_rfl : c21_2 = .seq c21_12 c21_3), W2_seq]
theorem c21_1_s (hw : Cur w) : W2 Try.prog 63 V21 c21_1 Q e w = (opsW (nx Try.prog) mv gdP 63 V21 o21_1 (fun e w => W2 Try.prog 63 V21 c21_2 Q e w) o21_1.toList [] e e w) := by rw [(by kernel_rfl : c21_1 = .seq (.region 1 o21_1 false) c21_2), W2_seq_reg]
theorem c21_s (hw : Cur w) : W2 Try.prog 63 V21 c21 Q e w = (opsW (nx Try.prog) mv gdP 63 V21 o21_0 (fun e w => W2 Try.prog 63 V21 c21_1 Q e w) o21_0.toList [] e e w) := by rw [(by kernel_rfl : c21 = .seq (.region 0 o21_0 false) c21_1), W2_seq_reg]
theorem call21 {a0 a1 a2 : Value} {w : World} {R : Value → World → Prop} (h : W2 Try.prog 63 V21 c21 (retQ Try.prog [.tmp 6] R) (argE [a0, a1, a2]) w) : CallsN Try.prog 21 [a0, a1, a2] w R :=
  callsN_of_W2 (c := c21) (rs := [.tmp 6]) V21 Try.ntmps21 (by rw [Try.results21]) mixed Try.func21 (by kernel_rfl) (by kernel_rfl) (by kernel_rfl) (by kernel_rfl) (by simp) h
noncomputable def hk21 := And.intro (@o21_0_eq) <| And.intro (@o21_1_eq) <| And.intro (@o21_4_eq) <| And.intro (@o21_5_eq) <| And.intro (@o21_6_eq) <| And.intro (@o21_10_eq) <| And.intro (@c21_7_s) <| And.intro (@o21_7_eq) <| And.intro (@o21_8_eq) <| And.intro (@c21_10_s) <| And.intro (@o21_9_eq) <| And.intro (@c21_11_s) <| And.intro (@c21_9_s) <| And.intro (@c21_8_s) <| And.intro (@c21_6_s) <| And.intro (@c21_5_s) <| And.intro (@c21_4_s) <| And.intro (@c21_3_s) <| And.intro (@o21_2_eq) <| And.intro (@o21_3_eq) <| And.intro (@c21_14_s) <| And.intro (@c21_13_s) <| And.intro (@c21_12_s) <| And.intro (@c21_2_s) <| And.intro (@c21_1_s) <| @c21_s
-- K21: ↓hk21
end
end Go.Proofs.Ytldmkhakjnglmaa
