/- The equations of the code of some functions, written by the printer gen.py: each is checked by the kernel. -/
import Derived.Test.YtomlgkecckffeaaGreatCI
import Derived.Test.YtomlgkecckffeaaGreatCB
set_option linter.unusedVariables false
set_option linter.unusedSimpArgs false
set_option maxRecDepth 100000
namespace Go.Proofs.YtomlgkecckffeaaGreat
open Go.VW
noncomputable section
set_option linter.defProp false
variable {N : Sem Next → World → (Value → World → Prop) → Prop} {T : Sem Next → (Value → Prop) → Prop} {M : Value → (Value → Prop) → Prop} {G : Bool → ((Value → World → Prop) → Prop) → (Value → World → Prop) → World → Prop}
  {H : Bool → ((Value → Prop) → Prop) → (Value → Prop) → Prop} {S : World → Prop} {k : Env → World → Prop} {Q : Exit → Env → World → Prop} {e : Env} {w : World}
  {T2 : Nat → Sem Next → (Value → Prop) → Prop} {S2 : Nat → World → Prop}
/-! ### (*vouch/table.Table) . Put -/
def V114 : Nat → Bool := fun i => [0, 1, 3, 4, 5, 6, 15, 29].elem i
noncomputable def c114 : Code := (Tryz.f114.body.getD .skip)
noncomputable def o114_0 : Array Oper := rO (cL c114)
noncomputable def c114_1 : Code := (cR c114)
noncomputable def c114_2 : Code := (cR c114_1)
noncomputable def o114_3 : Array Oper := rO (cL c114_2)
noncomputable def c114_3 : Code := (cR c114_2)
noncomputable def o114_4 : Array Oper := rO (cL c114_3)
noncomputable def c114_4 : Code := (cR c114_3)
noncomputable def c114_5 : Code := (cR c114_4)
noncomputable def o114_7 : Array Oper := rO (cL c114_5)
noncomputable def c114_6 : Code := (cR c114_5)
noncomputable def o114_8 : Array Oper := rO (cL c114_6)
noncomputable def c114_7 : Code := (cR c114_6)
noncomputable def o114_9 : Array Oper := rO (cL c114_7)
noncomputable def c114_8 : Code := (cR c114_7)
noncomputable def o114_10 : Array Oper := rO (cL c114_8)
noncomputable def c114_9 : Code := (cR c114_8)
noncomputable def o114_11 : Array Oper := rO (cL c114_9)
noncomputable def c114_10 : Code := (cL c114_4)
noncomputable def o114_5 : Array Oper := rO (cL c114_10)
noncomputable def c114_11 : Code := (cR c114_10)
noncomputable def c114_12 : Code := (cL c114_11)
noncomputable def o114_6 : Array Oper := rO c114_12
noncomputable def c114_13 : Code := (cL c114_1)
noncomputable def o114_1 : Array Oper := rO (cL c114_13)
noncomputable def c114_14 : Code := (cR c114_13)
noncomputable def c114_15 : Code := (cL c114_14)
noncomputable def o114_2 : Array Oper := rO (cL c114_15)
theorem o114_0_eq : opsW N M G 75 V114 o114_0 k o114_0.toList [] e e w =
    (N (xv (Instr.box 52 (e 1))) w fun t3 w =>
    M (Value.bool false) fun t4 =>
    k (Env.p (Env.p e 3 t3) 4 t4) w) := nr (by kernel_rfl)
theorem o114_3_eq : opsW N M G 75 V114 o114_3 k o114_3.toList [] e e w =
    (N (xv (Instr.fieldAt 52 (e 3) 0)) w fun t16 w =>
    N (xv (Instr.fieldAt 34 t16 0)) w fun t17 w =>
    N (xv (Instr.loadAt 9 t17)) w fun t18 w =>
    M t18 fun t5 =>
    k (Env.p e 5 t5) w) := nr (by kernel_rfl)
theorem o114_4_eq : opsW N M G 75 V114 o114_4 k o114_4.toList [] e e w =
    (M (e 0) fun t19 =>
    M (e 5) fun t20 =>
    N (xv (Instr.fieldAt 52 (e 3) 0)) w fun t21 w =>
    N (xv (Instr.fieldAt 34 t21 2)) w fun t22 w =>
    N (xv (Instr.loadAt 2 t22)) w fun t23 w =>
    N (xcall (Value.func (Fn.func 89) #[] #[]) [t19, t20, t23]) w fun t24 w =>
    k e w) := nr (by kernel_rfl)
theorem o114_7_eq : opsW N M G 75 V114 o114_7 k o114_7.toList [] e e w =
    (M (e 0) fun t35 =>
    M (e 5) fun t36 =>
    N (xv (Instr.fieldAt 52 (e 3) 0)) w fun t37 w =>
    N (xv (Instr.fieldAt 34 t37 2)) w fun t38 w =>
    N (xv (Instr.loadAt 2 t38)) w fun t39 w =>
    N (xcall (Value.func (Fn.func 150) #[] #[]) [t35, t36, t39]) w fun t40 w =>
    M t40 fun t34 =>
    N (xv (Instr.extract t34 0)) w fun t41 w =>
    N (xv (Instr.extract t34 1)) w fun t42 w =>
    M t41 fun t6 =>
    M t42 fun t7 =>
    k (Env.p e 6 t6) w) := nr (by kernel_rfl)
theorem o114_8_eq : drawGo2 N T2 M G H 75 V114 o114_8 S2 k o114_8.size [] (Array.replicate o114_8.size false) [] e e w =
    (S2 0 w ∧ (M (e 0) fun t43 =>
    S2 1 w ∧ (T2 1 (xnil t43) fun t44 =>
    S2 2 w ∧ (T2 2 (xv (Instr.fieldAt 194 t44 0)) fun t45 =>
    S2 3 w ∧ (T2 3 (xv (Instr.loadAt 192 t45)) fun t46 =>
    S2 4 w ∧ (M (e 5) fun t47 =>
    S2 5 w ∧ (M (e 0) fun t48 =>
    S2 6 w ∧ (T2 6 (xnil t48) fun t49 =>
    S2 7 w ∧ (T2 7 (xv (Instr.fieldAt 194 t49 0)) fun t50 =>
    S2 8 w ∧ (T2 8 (xv (Instr.loadAt 192 t50)) fun t51 =>
    S2 9 w ∧ (M (e 5) fun t52 =>
    S2 10 w ∧ (T2 10 (xv (Instr.lookup 192 t51 t52 false)) fun t53 =>
    S2 11 w ∧ (M (e 6) fun t54 =>
    S2 12 w ∧ (T2 12 (xv (Instr.loadAt 52 (e 3))) fun t55 =>
    N (xv (Instr.buildSlice 41 1 ([(0, t55)]).toArray)) w fun t56 w =>
    S2 11 w ∧ (S2 10 w ∧ (S2 9 w ∧ (S2 8 w ∧ (S2 7 w ∧ (S2 6 w ∧ (S2 5 w ∧ (S2 4 w ∧ (S2 3 w ∧ (S2 2 w ∧ (S2 1 w ∧ (S2 0 w ∧ (N (xcall (Value.func (Fn.func 169) #[] #[]) [t53, t54, t56]) w fun t57 w =>
    S2 9 w ∧ (S2 8 w ∧ (S2 7 w ∧ (S2 6 w ∧ (S2 5 w ∧ (S2 4 w ∧ (S2 3 w ∧ (S2 2 w ∧ (S2 1 w ∧ (S2 0 w ∧ (N (xu (Instr.mapUpdate 192 t46 t47 t57)) w fun _ w =>
    k e w)))))))))))))))))))))))))))))))))))) := nr (by kernel_rfl)
theorem o114_9_eq : opsW N M G 75 V114 o114_9 k o114_9.toList [] e e w =
    (M (e 0) fun t58 =>
    N (xnil t58) w fun t59 w =>
    N (xv (Instr.fieldAt 194 t59 1)) w fun t60 w =>
    N (xv (Instr.loadAt 3 t60)) w fun t61 w =>
    N (xv (xbin BinOp.add 3 (Operand.tmp 61) (Operand.const (Value.int IntKind.i64 1)) t61 (Value.int IntKind.i64 1))) w fun t62 w =>
    N (xnil t58) w fun t63 w =>
    N (xv (Instr.fieldAt 194 t63 1)) w fun t64 w =>
    N (xu (Instr.storeAt 3 t64 t62)) w fun _ w =>
    k e w) := nr (by kernel_rfl)
theorem o114_10_eq : drawGo2 N T2 M G H 75 V114 o114_10 S2 k o114_10.size [] (Array.replicate o114_10.size false) [] e e w =
    (S2 0 w ∧ (M (e 0) fun t65 =>
    S2 1 w ∧ (T2 1 (xnil t65) fun t66 =>
    S2 2 w ∧ (T2 2 (xv (Instr.fieldAt 194 t66 2)) fun t67 =>
    S2 3 w ∧ (T2 3 (xv (Instr.loadAt 3 t67)) fun t68 =>
    S2 4 w ∧ (T2 4 (xv (Instr.fieldAt 52 (e 3) 0)) fun t69 =>
    S2 5 w ∧ (T2 5 (xv (Instr.loadAt 34 t69)) fun t70 =>
    N (xcall (Value.func (Fn.func 115) #[] #[]) [t70]) w fun t71 w =>
    S2 4 w ∧ (S2 3 w ∧ (S2 2 w ∧ (S2 1 w ∧ (S2 0 w ∧ (S2 7 w ∧ (T2 7 (xv (xbin BinOp.add 3 (Operand.tmp 68) (Operand.tmp 71) t68 t71)) fun t72 =>
    S2 8 w ∧ (T2 8 (xnil t65) fun t73 =>
    S2 9 w ∧ (T2 9 (xv (Instr.fieldAt 194 t73 2)) fun t74 =>
    N (xu (Instr.storeAt 3 t74 t72)) w fun _ w =>
    S2 8 w ∧ (k e w)))))))))))))))) := nr (by kernel_rfl)
theorem o114_11_eq : opsW N M G 75 V114 o114_11 k o114_11.toList [] e e w =
    (M (Value.bool true) fun t4 =>
    k (Env.p e 4 t4) w) := nr (by kernel_rfl)
theorem c114_9_s (hw : Cur w) : W2 Tryz.prog 75 V114 c114_9 Q e w = (opsW (nx Tryz.prog) mv gdP 75 V114 o114_11 (fun e w => Q .ret e w) o114_11.toList [] e e w) := by rw [(by kernel_rfl : c114_9 = .seq (.region 11 o114_11 false) Code.ret), W2_seq_reg]; simp only [W2_ret, W2_skip, W2_exit, W2_label]
theorem c114_8_s (hw : Cur w) : W2 Tryz.prog 75 V114 c114_8 Q e w = (∃ S : Nat → World → Prop, drawGo2 (nx Tryz.prog) (fun i => takeP Tryz.prog (S i)) mv gdP gdT 75 V114 o114_10 S (fun e w => W2 Tryz.prog 75 V114 c114_9 Q e w) o114_10.size [] (Array.replicate o114_10.size false) [] e e w.drew) := by rw [(by kernel_rfl : c114_8 = .seq (.region 10 o114_10 true) c114_9), W2_seq_regD]
theorem c114_7_s (hw : Cur w) : W2 Tryz.prog 75 V114 c114_7 Q e w = (opsW (nx Tryz.prog) mv gdP 75 V114 o114_9 (fun e w => W2 Tryz.prog 75 V114 c114_8 Q e w) o114_9.toList [] e e w) := by rw [(by kernel_rfl : c114_7 = .seq (.region 9 o114_9 false) c114_8), W2_seq_reg]
theorem c114_6_s (hw : Cur w) : W2 Tryz.prog 75 V114 c114_6 Q e w = (∃ S : Nat → World → Prop, drawGo2 (nx Tryz.prog) (fun i => takeP Tryz.prog (S i)) mv gdP gdT 75 V114 o114_8 S (fun e w => W2 Tryz.prog 75 V114 c114_7 Q e w) o114_8.size [] (Array.replicate o114_8.size false) [] e e w.drew) := by rw [(by kernel_rfl : c114_6 = .seq (.region 8 o114_8 true) c114_7), W2_seq_regD]
theorem c114_5_s (hw : Cur w) : W2 Tryz.prog 75 V114 c114_5 Q e w = (opsW (nx Tryz.prog) mv gdP 75 V114 o114_7 (fun e w => W2 Tryz.prog 75 V114 c114_6 Q e w) o114_7.toList [] e e w) := by rw [(by kernel_rfl : c114_5 = .seq (.region 7 o114_7 false) c114_6), W2_seq_reg]
theorem o114_5_eq : opsW N M G 75 V114 o114_5 k o114_5.toList [] e e w =
    (M (e 0) fun t25 =>
    N (xnil t25) w fun t26 w =>
    N (xv (Instr.fieldAt 194 t26 0)) w fun t27 w =>
    N (xv (Instr.loadAt 192 t27)) w fun t28 w =>
    N (xv (xbin BinOp.eql 192 (Operand.tmp 28) (Operand.const (Value.map none)) t28 (Value.map none))) w fun t29 w =>
    k (Env.p e 29 t29) w) := nr (by kernel_rfl)
theorem o114_6_eq : opsW N M G 75 V114 o114_6 k o114_6.toList [] e e w =
    (M (e 0) fun t30 =>
    N (xv (Instr.makeMap 192 none)) w fun t31 w =>
    N (xnil t30) w fun t32 w =>
    N (xv (Instr.fieldAt 194 t32 0)) w fun t33 w =>
    N (xu (Instr.storeAt 192 t33 t31)) w fun _ w =>
    k e w) := nr (by kernel_rfl)
theorem c114_12_s (hw : Cur w) : W2 Tryz.prog 75 V114 c114_12 Q e w = (opsW (nx Tryz.prog) mv gdP 75 V114 o114_6 (fun e w => Q .normal e w) o114_6.toList [] e e w) := by rw [(by kernel_rfl : c114_12 = (.region 6 o114_6 false)), W2_reg]
theorem c114_11_v : opV V114 (.tmp 29) = true := by kernel_rfl
theorem c114_11_s (hw : Cur w) : W2 Tryz.prog 75 V114 c114_11 Q e w = (condP (ev e (.tmp 29)) (W2 Tryz.prog 75 V114 c114_12 Q e w) (Q .normal e w)) := by rw [(by kernel_rfl : c114_11 = .cond (.tmp 29) c114_12 Code.skip), W2_cond, c114_11_v, cond_true]; simp only [W2_ret, W2_skip, W2_exit, W2_label]
theorem c114_10_s (hw : Cur w) : W2 Tryz.prog 75 V114 c114_10 Q e w = (opsW (nx Tryz.prog) mv gdP 75 V114 o114_5 (fun e w => W2 Tryz.prog 75 V114 c114_11 Q e w) o114_5.toList [] e e w) := by rw [(by kernel_rfl : c114_10 = .seq (.region 5 o114_5 false) c114_11), W2_seq_reg]
theorem c114_4_s (hw : Cur w) : W2 Tryz.prog 75 V114 c114_4 Q e w = (W2 Tryz.prog 75 V114 c114_10 (seqQ (fun e w => W2 Tryz.prog 75 V114 c114_5 Q e w) Q) e w) := by rw [(by kernel_rfl : c114_4 = .seq c114_10 c114_5), W2_seq]
theorem c114_3_s (hw : Cur w) : W2 Tryz.prog 75 V114 c114_3 Q e w = (opsW (nx Tryz.prog) mv gdP 75 V114 o114_4 (fun e w => W2 Tryz.prog 75 V114 c114_4 Q e w) o114_4.toList [] e e w) := by rw [(by kernel_rfl : c114_3 = .seq (.region 4 o114_4 false) c114_4), W2_seq_reg]
theorem c114_2_s (hw : Cur w) : W2 Tryz.prog 75 V114 c114_2 Q e w = (opsW (nx Tryz.prog) mv gdP 75 V114 o114_3 (fun e w => W2 Tryz.prog 75 V114 c114_3 Q e w) o114_3.toList [] e e w) := by rw [(by kernel_rfl : c114_2 = .seq (.region 3 o114_3 false) c114_3), W2_seq_reg]
theorem o114_1_eq : opsW N M G 75 V114 o114_1 k o114_1.toList [] e e w =
    (M (e 0) fun t8 =>
    N (xv (xbin BinOp.eql 114 (Operand.tmp 8) (Operand.const (Value.pointer none)) t8 (Value.pointer none))) w fun t9 w =>
    M t9 fun t10 =>
    G (isB t10 false) (fun K => N (xv (Instr.fieldAt 52 (e 3) 0)) w K) (fun t11 w =>
    G (isB t10 false) (fun K => N (xv (Instr.loadAt 34 t11)) w K) (fun t12 w =>
    G (isB t10 false) (fun K => N (xcall (Value.func (Fn.func 48) #[] #[]) [t12]) w K) (fun t13 w =>
    G (isB t10 false) (fun K => N (xv (Op.unary UnOp.not t13)) w K) (fun t14 w =>
    N (xpick t10 (Value.bool true) t14) w fun t15 w =>
    k (Env.p e 15 t15) w) w) w) w) w) := nr (by kernel_rfl)
theorem o114_2_eq : opsW N M G 75 V114 o114_2 k o114_2.toList [] e e w =
    (M (Value.bool false) fun t4 =>
    k (Env.p e 4 t4) w) := nr (by kernel_rfl)
theorem c114_15_s (hw : Cur w) : W2 Tryz.prog 75 V114 c114_15 Q e w = (opsW (nx Tryz.prog) mv gdP 75 V114 o114_2 (fun e w => Q .ret e w) o114_2.toList [] e e w) := by rw [(by kernel_rfl : c114_15 = .seq (.region 2 o114_2 false) Code.ret), W2_seq_reg]; simp only [W2_ret, W2_skip, W2_exit, W2_label]
theorem c114_14_v : opV V114 (.tmp 15) = true := by kernel_rfl
theorem c114_14_s (hw : Cur w) : W2 Tryz.prog 75 V114 c114_14 Q e w = (condP (ev e (.tmp 15)) (W2 Tryz.prog 75 V114 c114_15 Q e w) (Q .normal e w)) := by rw [(by kernel_rfl : c114_14 = .cond (.tmp 15) c114_15 Code.skip), W2_cond, c114_14_v, cond_true]; simp only [W2_ret, W2_skip, W2_exit, W2_label]
theorem c114_13_s (hw : Cur w) : W2 Tryz.prog 75 V114 c114_13 Q e w = (opsW (nx Tryz.prog) mv gdP 75 V114 o114_1 (fun e w => W2 Tryz.prog 75 V114 c114_14 Q e w) o114_1.toList [] e e w) := by rw [(by kernel_rfl : c114_13 = .seq (.region 1 o114_1 false) c114_14), W2_seq_reg]
theorem c114_1_s (hw : Cur w) : W2 Tryz.prog 75 V114 c114_1 Q e w = (W2 Tryz.prog 75 V114 c114_13 (seqQ (fun e w => W2 Tryz.prog 75 V114 c114_2 Q e w) Q) e w) := by rw [(by kernel_rfl : c114_1 = .seq c114_13 c114_2), W2_seq]
theorem c114_s (hw : Cur w) : W2 Tryz.prog 75 V114 c114 Q e w = (opsW (nx Tryz.prog) mv gdP 75 V114 o114_0 (fun e w => W2 Tryz.prog 75 V114 c114_1 Q e w) o114_0.toList [] e e w) := by rw [(by kernel_rfl : c114 = .seq (.region 0 o114_0 false) c114_1), W2_seq_reg]
theorem call114 {a0 a1 : Value} {w : World} {R : Value → World → Prop} (h : W2 Tryz.prog 75 V114 c114 (retQ Tryz.prog [.tmp 4] R) (argE [a0, a1]) w) : CallsN Tryz.prog 114 [a0, a1] w R :=
  callsN_of_W2 (c := c114) (rs := [.tmp 4]) V114 Tryz.ntmps114 (by rw [Tryz.results114]) mixed Tryz.func114 (by kernel_rfl) (by kernel_rfl) (by kernel_rfl) (by kernel_rfl) (by simp) h
noncomputable def hk114 := And.intro (@o114_0_eq) <| And.intro (@o114_3_eq) <| And.intro (@o114_4_eq) <| And.intro (@o114_7_eq) <| And.intro (@o114_8_eq) <| And.intro (@o114_9_eq) <| And.intro (@o114_10_eq) <| And.intro (@o114_11_eq) <| And.intro (@c114_9_s) <| And.intro (@c114_8_s) <| And.intro (@c114_7_s) <| And.intro (@c114_6_s) <| And.intro (@c114_5_s) <| And.intro (@o114_5_eq) <| And.intro (@o114_6_eq) <| And.intro (@c114_12_s) <| And.intro (@c114_11_s) <| And.intro (@c114_10_s) <| And.intro (@c114_4_s) <| And.intro (@c114_3_s) <| And.intro (@c114_2_s) <| And.intro (@o114_1_eq) <| And.intro (@o114_2_eq) <| And.intro (@c114_15_s) <| And.intro (@c114_14_s) <| And.intro (@c114_13_s) <| And.intro (@c114_1_s) <| @c114_s
-- K114: ↓hk114
/-! ### (*vouch/table.Table) . Drop -/
def V89 : Nat → Bool := fun i => [0, 1, 2, 6, 7, 8, 9, 18, 47].elem i
noncomputable def c89 : Code := (Tryz.f89.body.getD .skip)
noncomputable def o89_0 : Array Oper := rO (cL c89)
noncomputable def c89_1 : Code := (cR c89)
noncomputable def o89_1 : Array Oper := rO (cL c89_1)
noncomputable def c89_2 : Code := (cR c89_1)
noncomputable def c89_3 : Code := (cR c89_2)
noncomputable def o89_4 : Array Oper := rO (cL c89_3)
noncomputable def c89_4 : Code := (cR c89_3)
noncomputable def o89_5 : Array Oper := rO (cL c89_4)
noncomputable def c89_5 : Code := (cR c89_4)
noncomputable def o89_6 : Array Oper := rO (cL c89_5)
noncomputable def c89_6 : Code := (cR c89_5)
noncomputable def c89_7 : Code := (cR c89_6)
noncomputable def o89_10 : Array Oper := rO (cL c89_7)
noncomputable def c89_8 : Code := (cL c89_6)
noncomputable def o89_7 : Array Oper := rO (cL c89_8)
noncomputable def c89_9 : Code := (cR c89_8)
noncomputable def c89_10 : Code := (cL c89_9)
noncomputable def o89_8 : Array Oper := rO c89_10
noncomputable def c89_11 : Code := (cR c89_9)
noncomputable def o89_9 : Array Oper := rO c89_11
noncomputable def c89_12 : Code := (cL c89_2)
noncomputable def o89_2 : Array Oper := rO (cL c89_12)
noncomputable def c89_13 : Code := (cR c89_12)
noncomputable def c89_14 : Code := (cL c89_13)
noncomputable def o89_3 : Array Oper := rO (cL c89_14)
theorem o89_0_eq : opsW N M G 63 V89 o89_0 k o89_0.toList [] e e w =
    (M (Value.bool false) fun t6 =>
    k (Env.p e 6 t6) w) := nr (by kernel_rfl)
theorem o89_1_eq : opsW N M G 63 V89 o89_1 k o89_1.toList [] e e w =
    (M (e 0) fun t11 =>
    M (e 1) fun t12 =>
    M (e 2) fun t13 =>
    N (xcall (Value.func (Fn.func 150) #[] #[]) [t11, t12, t13]) w fun t14 w =>
    M t14 fun t10 =>
    N (xv (Instr.extract t10 0)) w fun t15 w =>
    N (xv (Instr.extract t10 1)) w fun t16 w =>
    M t15 fun t7 =>
    M t16 fun t8 =>
    k (Env.p (Env.p e 7 t7) 8 t8) w) := nr (by kernel_rfl)
theorem o89_4_eq : opsW N M G 63 V89 o89_4 k o89_4.toList [] e e w =
    (M (e 0) fun t19 =>
    N (xnil t19) w fun t20 w =>
    N (xv (Instr.fieldAt 194 t20 0)) w fun t21 w =>
    N (xv (Instr.loadAt 192 t21)) w fun t22 w =>
    M (e 1) fun t23 =>
    N (xv (Instr.lookup 192 t22 t23 false)) w fun t24 w =>
    M t24 fun t9 =>
    k (Env.p e 9 t9) w) := nr (by kernel_rfl)
theorem o89_5_eq : opsW N M G 63 V89 o89_5 k o89_5.toList [] e e w =
    (M (e 0) fun t25 =>
    N (xnil t25) w fun t26 w =>
    N (xv (Instr.fieldAt 194 t26 1)) w fun t27 w =>
    N (xv (Instr.loadAt 3 t27)) w fun t28 w =>
    N (xv (xbin BinOp.sub 3 (Operand.tmp 28) (Operand.const (Value.int IntKind.i64 1)) t28 (Value.int IntKind.i64 1))) w fun t29 w =>
    N (xnil t25) w fun t30 w =>
    N (xv (Instr.fieldAt 194 t30 1)) w fun t31 w =>
    N (xu (Instr.storeAt 3 t31 t29)) w fun _ w =>
    k e w) := nr (by kernel_rfl)
theorem o89_6_eq : drawGo2 N T2 M G H 63 V89 o89_6 S2 k o89_6.size [] (Array.replicate o89_6.size false) [] e e w =
    (S2 0 w ∧ (M (e 0) fun t32 =>
    S2 1 w ∧ (T2 1 (xnil t32) fun t33 =>
    S2 2 w ∧ (T2 2 (xv (Instr.fieldAt 194 t33 2)) fun t34 =>
    S2 3 w ∧ (T2 3 (xv (Instr.loadAt 3 t34)) fun t35 =>
    S2 4 w ∧ (M (e 9) fun t36 =>
    S2 5 w ∧ (M (e 7) fun t37 =>
    S2 6 w ∧ (T2 6 (xv (Instr.indexAt 41 t36 t37)) fun t38 =>
    S2 7 w ∧ (T2 7 (xv (Instr.fieldAt 52 t38 0)) fun t39 =>
    S2 8 w ∧ (T2 8 (xv (Instr.loadAt 34 t39)) fun t40 =>
    N (xcall (Value.func (Fn.func 115) #[] #[]) [t40]) w fun t41 w =>
    S2 7 w ∧ (S2 6 w ∧ (S2 5 w ∧ (S2 4 w ∧ (S2 3 w ∧ (S2 2 w ∧ (S2 1 w ∧ (S2 0 w ∧ (S2 10 w ∧ (T2 10 (xv (xbin BinOp.sub 3 (Operand.tmp 35) (Operand.tmp 41) t35 t41)) fun t42 =>
    S2 11 w ∧ (T2 11 (xnil t32) fun t43 =>
    S2 12 w ∧ (T2 12 (xv (Instr.fieldAt 194 t43 2)) fun t44 =>
    N (xu (Instr.storeAt 3 t44 t42)) w fun _ w =>
    S2 11 w ∧ (k e w)))))))))))))))))))))) := nr (by kernel_rfl)
theorem o89_10_eq : opsW N M G 63 V89 o89_10 k o89_10.toList [] e e w =
    (M (Value.bool true) fun t6 =>
    k (Env.p e 6 t6) w) := nr (by kernel_rfl)
theorem c89_7_s (hw : Cur w) : W2 Tryz.prog 63 V89 c89_7 Q e w = (opsW (nx Tryz.prog) mv gdP 63 V89 o89_10 (fun e w => Q .ret e w) o89_10.toList [] e e w) := by rw [(by kernel_rfl : c89_7 = .seq (.region 10 o89_10 false) Code.ret), W2_seq_reg]; simp only [W2_ret, W2_skip, W2_exit, W2_label]
theorem o89_7_eq : opsW N M G 63 V89 o89_7 k o89_7.toList [] e e w =
    (M (e 9) fun t45 =>
    N (builtin Builtin.len #[41] 3 ([false]).toArray ([t45]).toArray) w fun t46 w =>
    N (xv (xbin BinOp.eql 3 (Operand.tmp 46) (Operand.const (Value.int IntKind.i64 1)) t46 (Value.int IntKind.i64 1))) w fun t47 w =>
    k (Env.p e 47 t47) w) := nr (by kernel_rfl)
theorem o89_8_eq : opsW N M G 63 V89 o89_8 k o89_8.toList [] e e w =
    (M (e 0) fun t48 =>
    N (xnil t48) w fun t49 w =>
    N (xv (Instr.fieldAt 194 t49 0)) w fun t50 w =>
    N (xv (Instr.loadAt 192 t50)) w fun t51 w =>
    M (e 1) fun t52 =>
    N (builtin Builtin.delete #[192, 9] 0 ([false, false]).toArray ([t51, t52]).toArray) w fun _ w =>
    k e w) := nr (by kernel_rfl)
theorem c89_10_s (hw : Cur w) : W2 Tryz.prog 63 V89 c89_10 Q e w = (opsW (nx Tryz.prog) mv gdP 63 V89 o89_8 (fun e w => Q .normal e w) o89_8.toList [] e e w) := by rw [(by kernel_rfl : c89_10 = (.region 8 o89_8 false)), W2_reg]
theorem o89_9_eq : drawGo2 N T2 M G H 63 V89 o89_9 S2 k o89_9.size [] (Array.replicate o89_9.size false) [] e e w =
    (S2 0 w ∧ (M (e 0) fun t53 =>
    S2 1 w ∧ (T2 1 (xnil t53) fun t54 =>
    S2 2 w ∧ (T2 2 (xv (Instr.fieldAt 194 t54 0)) fun t55 =>
    S2 3 w ∧ (T2 3 (xv (Instr.loadAt 192 t55)) fun t56 =>
    S2 4 w ∧ (M (e 1) fun t57 =>
    S2 5 w ∧ (M (e 9) fun t58 =>
    S2 6 w ∧ (M (e 7) fun t59 =>
    S2 7 w ∧ (M (e 7) fun t60 =>
    S2 8 w ∧ (T2 8 (xv (xbin BinOp.add 3 (Operand.tmp 60) (Operand.const (Value.int IntKind.i64 1)) t60 (Value.int IntKind.i64 1))) fun t61 =>
    N (xcall (Value.func (Fn.func 151) #[] #[]) [t58, t59, t61]) w fun t62 w =>
    S2 7 w ∧ (S2 4 w ∧ (S2 3 w ∧ (S2 2 w ∧ (S2 1 w ∧ (S2 0 w ∧ (N (xu (Instr.mapUpdate 192 t56 t57 t62)) w fun _ w =>
    k e w)))))))))))))))) := nr (by kernel_rfl)
theorem c89_11_s (hw : Cur w) : W2 Tryz.prog 63 V89 c89_11 Q e w = (∃ S : Nat → World → Prop, drawGo2 (nx Tryz.prog) (fun i => takeP Tryz.prog (S i)) mv gdP gdT 63 V89 o89_9 S (fun e w => Q .normal e w) o89_9.size [] (Array.replicate o89_9.size false) [] e e w.drew) := by rw [(by kernel_rfl : c89_11 = (.region 9 o89_9 true)), W2_regD']
theorem c89_9_v : opV V89 (.tmp 47) = true := by kernel_rfl
theorem c89_9_s (hw : Cur w) : W2 Tryz.prog 63 V89 c89_9 Q e w = (condP (ev e (.tmp 47)) (W2 Tryz.prog 63 V89 c89_10 Q e w) (W2 Tryz.prog 63 V89 c89_11 Q e w)) := by rw [(by kernel_rfl : c89_9 = .cond (.tmp 47) c89_10 c89_11), W2_cond, c89_9_v, cond_true]
theorem c89_8_s (hw : Cur w) : W2 Tryz.prog 63 V89 c89_8 Q e w = (opsW (nx Tryz.prog) mv gdP 63 V89 o89_7 (fun e w => W2 Tryz.prog 63 V89 c89_9 Q e w) o89_7.toList [] e e w) := by rw [(by kernel_rfl : c89_8 = .seq (.region 7 o89_7 false) c89_9), W2_seq_reg]
theorem c89_6_s (hw : Cur w) : W2 Tryz.prog 63 V89 c89_6 Q e w = (W2 Tryz.prog 63 V89 c89_8 (seqQ (fun e w => W2 Tryz.prog 63 V89 c89_7 Q e w) Q) e w) := by rw [(by kernel_rfl : c89_6 = .seq c89_8 c89_7), W2_seq]
theorem c89_5_s (hw : Cur w) : W2 Tryz.prog 63 V89 c89_5 Q e w = (∃ S : Nat → World → Prop, drawGo2 (nx Tryz.prog) (fun i => takeP Tryz.prog (S i)) mv gdP gdT 63 V89 o89_6 S (fun e w => W2 Tryz.prog 63 V89 c89_6 Q e w) o89_6.size [] (Array.replicate o89_6.size false) [] e e w.drew) := by rw [(by kernel_rfl : c89_5 = .seq (.region 6 o89_6 true) c89_6), W2_seq_regD]
theorem c89_4_s (hw : Cur w) : W2 Tryz.prog 63 V89 c89_4 Q e w = (opsW (nx Tryz.prog) mv gdP 63 V89 o89_5 (fun e w => W2 Tryz.prog 63 V89 c89_5 Q e w) o89_5.toList [] e e w) := by rw [(by kernel_rfl : c89_4 = .seq (.region 5 o89_5 false) c89_5), W2_seq_reg]
theorem c89_3_s (hw : Cur w) : W2 Tryz.prog 63 V89 c89_3 Q e w = (opsW (nx Tryz.prog) mv gdP 63 V89 o89_4 (fun e w => W2 Tryz.prog 63 V89 c89_4 Q e w) o89_4.toList [] e e w) := by rw [(by kernel_rfl : c89_3 = .seq (.region 4 o89_4 false) c89_4), W2_seq_reg]
theorem o89_2_eq : opsW N M G 63 V89 o89_2 k o89_2.toList [] e e w =
    (M (e 8) fun t17 =>
    N (xv (Op.unary UnOp.not t17)) w fun t18 w =>
    k (Env.p e 18 t18) w) := nr (by kernel_rfl)
theorem o89_3_eq : opsW N M G 63 V89 o89_3 k o89_3.toList [] e e w =
    (M (Value.bool false) fun t6 =>
    k (Env.p e 6 t6) w) := nr (by kernel_rfl)
theorem c89_14_s (hw : Cur w) : W2 Tryz.prog 63 V89 c89_14 Q e w = (opsW (nx Tryz.prog) mv gdP 63 V89 o89_3 (fun e w => Q .ret e w) o89_3.toList [] e e w) := by rw [(by kernel_rfl : c89_14 = .seq (.region 3 o89_3 false) Code.ret), W2_seq_reg]; simp only [W2_ret, W2_skip, W2_exit, W2_label]
theorem c89_13_v : opV V89 (.tmp 18) = true := by kernel_rfl
theorem c89_13_s (hw : Cur w) : W2 Tryz.prog 63 V89 c89_13 Q e w = (condP (ev e (.tmp 18)) (W2 Tryz.prog 63 V89 c89_14 Q e w) (Q .normal e w)) := by rw [(by kernel_rfl : c89_13 = .cond (.tmp 18) c89_14 Code.skip), W2_cond, c89_13_v, cond_true]; simp only [W2_ret, W2_skip, W2_exit, W2_label]
theorem c89_12_s (hw : Cur w) : W2 Tryz.prog 63 V89 c89_12 Q e w = (opsW (nx Tryz.prog) mv gdP 63 V89 o89_2 (fun e w => W2 Tryz.prog 63 V89 c89_13 Q e w) o89_2.toList [] e e w) := by rw [(by kernel_rfl : c89_12 = .seq (.region 2 o89_2 false) c89_13), W2_seq_reg]
theorem c89_2_s (hw : Cur w) : W2 Tryz.prog 63 V89 c89_2 Q e w = (W2 Tryz.prog 63 V89 c89_12 (seqQ (fun e w => W2 Tryz.prog 63 V89 c89_3 Q e w) Q) e w) := by rw [(by kernel_rfl : c89_2 = .seq c89_12 c89_3), W2_seq]
theorem c89_1_s (hw : Cur w) : W2 Tryz.prog 63 V89 c89_1 Q e w = (opsW (nx Tryz.prog) mv gdP 63 V89 o89_1 (fun e w => W2 Tryz.prog 63 V89 c89_2 Q e w) o89_1.toList [] e e w) := by rw [(by kernel_rfl : c89_1 = .seq (.region 1 o89_1 false) c89_2), W2_seq_reg]
theorem c89_s (hw : Cur w) : W2 Tryz.prog 63 V89 c89 Q e w = (opsW (nx Tryz.prog) mv gdP 63 V89 o89_0 (fun e w => W2 Tryz.prog 63 V89 c89_1 Q e w) o89_0.toList [] e e w) := by rw [(by kernel_rfl : c89 = .seq (.region 0 o89_0 false) c89_1), W2_seq_reg]
theorem call89 {a0 a1 a2 : Value} {w : World} {R : Value → World → Prop} (h : W2 Tryz.prog 63 V89 c89 (retQ Tryz.prog [.tmp 6] R) (argE [a0, a1, a2]) w) : CallsN Tryz.prog 89 [a0, a1, a2] w R :=
  callsN_of_W2 (c := c89) (rs := [.tmp 6]) V89 Tryz.ntmps89 (by rw [Tryz.results89]) mixed Tryz.func89 (by kernel_rfl) (by kernel_rfl) (by kernel_rfl) (by kernel_rfl) (by simp) h
noncomputable def hk89 := And.intro (@o89_0_eq) <| And.intro (@o89_1_eq) <| And.intro (@o89_4_eq) <| And.intro (@o89_5_eq) <| And.intro (@o89_6_eq) <| And.intro (@o89_10_eq) <| And.intro (@c89_7_s) <| And.intro (@o89_7_eq) <| And.intro (@o89_8_eq) <| And.intro (@c89_10_s) <| And.intro (@o89_9_eq) <| And.intro (@c89_11_s) <| And.intro (@c89_9_s) <| And.intro (@c89_8_s) <| And.intro (@c89_6_s) <| And.intro (@c89_5_s) <| And.intro (@c89_4_s) <| And.intro (@c89_3_s) <| And.intro (@o89_2_eq) <| And.intro (@o89_3_eq) <| And.intro (@c89_14_s) <| And.intro (@c89_13_s) <| And.intro (@c89_12_s) <| And.intro (@c89_2_s) <| And.intro (@c89_1_s) <| @c89_s
-- K89: ↓hk89
end
end Go.Proofs.YtomlgkecckffeaaGreat
