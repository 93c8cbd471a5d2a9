/- The equations of the code of some functions, written by the printer gen.py: each is checked by the kernel. -/
import Derived.Test.YtenokheiindfkaaQ0
set_option linter.unusedVariables false
set_option linter.unusedSimpArgs false
set_option maxRecDepth 100000
namespace Go.Proofs.Ytenokheiindfkaa
open Go.VW
noncomputable section
set_option linter.defProp false
variable {N : Sem Next → World → (Value → World → Prop) → Prop} {T : Sem Next → (Value → Prop) → Prop} {M : Value → (Value → Prop) → Prop} {G : Bool → ((Value → World → Prop) → Prop) → (Value → World → Prop) → World → Prop}
  {H : Bool → ((Value → Prop) → Prop) → (Value → Prop) → Prop} {S : World → Prop} {k : Env → World → Prop} {Q : Exit → Env → World → Prop} {e : Env} {w : World}
  {T2 : Nat → Sem Next → (Value → Prop) → Prop} {S2 : Nat → World → Prop}
/-! ### vouch/vouchlaw07.GapPlays -/
def V6 : Nat → Bool := fun i => [0, 1, 2, 6, 7, 8, 9, 11, 19, 23, 33].elem i
noncomputable def c6 : Code := (Try.f6.body.getD .skip)
noncomputable def o6_0 : Array Oper := rO (cL c6)
noncomputable def c6_1 : Code := (cR c6)
noncomputable def c6_2 : Code := (cR c6_1)
noncomputable def o6_3 : Array Oper := rO (cL c6_2)
noncomputable def c6_3 : Code := (cR c6_2)
noncomputable def c6_4 : Code := (cR c6_3)
noncomputable def c6_5 : Code := (cR c6_4)
noncomputable def o6_11 : Array Oper := rO (cL c6_5)
noncomputable def c6_6 : Code := (cL c6_4)
noncomputable def o6_6 : Array Oper := rO (cL c6_6)
noncomputable def c6_7 : Code := (cR c6_6)
noncomputable def c6_8 : Code := (cL c6_7)
noncomputable def c6_9 : Code := (cL c6_8)
noncomputable def c6_10 : Code := (cR c6_9)
noncomputable def c6_11 : Code := (cR c6_10)
noncomputable def o6_8 : Array Oper := rO c6_11
noncomputable def c6_12 : Code := (cL c6_10)
noncomputable def c6_13 : Code := (cL c6_12)
noncomputable def o6_9 : Array Oper := rO (cL c6_13)
noncomputable def c6_14 : Code := (cR c6_13)
noncomputable def c6_15 : Code := (cL c6_14)
noncomputable def o6_10 : Array Oper := rO (cL c6_15)
noncomputable def c6_16 : Code := (cL c6_9)
noncomputable def o6_7 : Array Oper := rO (cL c6_16)
noncomputable def c6_17 : Code := (cR c6_16)
noncomputable def c6_18 : Code := (cL c6_3)
noncomputable def o6_4 : Array Oper := rO (cL c6_18)
noncomputable def c6_19 : Code := (cR c6_18)
noncomputable def c6_20 : Code := (cL c6_19)
noncomputable def o6_5 : Array Oper := rO (cL c6_20)
noncomputable def c6_21 : Code := (cL c6_1)
noncomputable def o6_1 : Array Oper := rO (cL c6_21)
noncomputable def c6_22 : Code := (cR c6_21)
noncomputable def c6_23 : Code := (cL c6_22)
noncomputable def o6_2 : Array Oper := rO (cL c6_23)
theorem o6_0_eq : opsW N M G 41 V6 o6_0 k o6_0.toList [] e e w =
    (M (Value.bool false) fun t6 =>
    k (Env.p e 6 t6) w) := nr (by kernel_rfl)
theorem o6_3_eq : opsW N M G 41 V6 o6_3 k o6_3.toList [] e e w =
    (M (e 0) fun t12 =>
    M (e 1) fun t13 =>
    N (xcall (Value.func (Fn.func 26) #[] #[]) [t12, t13]) w fun t14 w =>
    M (e 0) fun t15 =>
    M (e 1) fun t16 =>
    N (xcall (Value.func (Fn.func 27) #[] #[]) [t15, t16]) w fun t17 w =>
    M t14 fun t7 =>
    M t17 fun t8 =>
    k (Env.p (Env.p e 7 t7) 8 t8) w) := nr (by kernel_rfl)
theorem o6_11_eq : drawGo N T M G H 41 V6 o6_11 S k o6_11.size true (Array.replicate o6_11.size false) [] e e w =
    (M (e 7) fun t34 =>
    M (e 8) fun t36 =>
    T (xnil t36) fun t37 =>
    T (xv (Instr.fieldAt 62 t37 0)) fun t38 =>
    T (xv (Instr.loadAt 2 t38)) fun t39 =>
    N (xcall (Value.func (Fn.func 29) #[] #[]) [t34]) w fun t35 w =>
    S w ∧ (T (xv (xbin BinOp.eql 2 (Operand.tmp 35) (Operand.tmp 39) t35 t39)) fun t40 =>
    M t40 fun t6 =>
    k (Env.p e 6 t6) w)) := nr (by kernel_rfl)
theorem c6_5_s (hw : Cur w) : W Try.prog 41 V6 c6_5 Q e w = (∃ S : World → Prop, S w.drew ∧ drawGo (nx Try.prog) (takeP Try.prog S) mv gdP gdT 41 V6 o6_11 S (fun e w => Q .ret e w) o6_11.size true (Array.replicate o6_11.size false) [] e e w.drew) := by rw [(by kernel_rfl : c6_5 = .seq (.region 11 o6_11 true) Code.ret), W_seq_regD]; simp only [W_ret, W_skip, W_exit, W_label]
theorem o6_6_eq : opsW N M G 41 V6 o6_6 k o6_6.toList [] e e w =
    (M (Value.int IntKind.i64 0) fun t9 =>
    k (Env.p e 9 t9) w) := nr (by kernel_rfl)
theorem o6_8_eq : opsW N M G 41 V6 o6_8 k o6_8.toList [] e e w =
    (M (e 9) fun t24 =>
    N (xv (xbin BinOp.add 3 (Operand.tmp 24) (Operand.const (Value.int IntKind.i64 1)) t24 (Value.int IntKind.i64 1))) w fun t25 w =>
    M t25 fun t9 =>
    k (Env.p e 9 t9) w) := nr (by kernel_rfl)
theorem c6_11_s (hw : Cur w) : W Try.prog 41 V6 c6_11 Q e w = (opsW (nx Try.prog) mv gdP 41 V6 o6_8 (fun e w => Q .normal e w) o6_8.toList [] e e w) := by rw [(by kernel_rfl : c6_11 = (.region 8 o6_8 false)), W_reg]
theorem o6_9_eq : opsW N M G 41 V6 o6_9 k o6_9.toList [] e e w =
    (M (e 7) fun t26 =>
    M (e 8) fun t27 =>
    M (e 2) fun t28 =>
    M (e 9) fun t29 =>
    N (xv (Instr.indexAt 49 t28 t29)) w fun t30 w =>
    N (xv (Instr.loadAt 59 t30)) w fun t31 w =>
    N (xcall (Value.func (Fn.func 28) #[] #[]) [t26, t27, t31]) w fun t32 w =>
    N (xv (Op.unary UnOp.not t32)) w fun t33 w =>
    k (Env.p e 33 t33) w) := nr (by kernel_rfl)
theorem o6_10_eq : opsW N M G 41 V6 o6_10 k o6_10.toList [] e e w =
    (M (Value.bool false) fun t6 =>
    k (Env.p e 6 t6) w) := nr (by kernel_rfl)
theorem c6_15_s (hw : Cur w) : W Try.prog 41 V6 c6_15 Q e w = (opsW (nx Try.prog) mv gdP 41 V6 o6_10 (fun e w => Q .ret e w) o6_10.toList [] e e w) := by rw [(by kernel_rfl : c6_15 = .seq (.region 10 o6_10 false) Code.ret), W_seq_reg]; simp only [W_ret, W_skip, W_exit, W_label]
theorem c6_14_v : opV V6 (.tmp 33) = true := by kernel_rfl
theorem c6_14_s (hw : Cur w) : W Try.prog 41 V6 c6_14 Q e w = (condP (ev e (.tmp 33)) (W Try.prog 41 V6 c6_15 Q e w) (Q .normal e w)) := by rw [(by kernel_rfl : c6_14 = .cond (.tmp 33) c6_15 Code.skip), W_cond, c6_14_v, cond_true]; simp only [W_ret, W_skip, W_exit, W_label]
theorem c6_13_s (hw : Cur w) : W Try.prog 41 V6 c6_13 Q e w = (opsW (nx Try.prog) mv gdP 41 V6 o6_9 (fun e w => W Try.prog 41 V6 c6_14 Q e w) o6_9.toList [] e e w) := by rw [(by kernel_rfl : c6_13 = .seq (.region 9 o6_9 false) c6_14), W_seq_reg]
theorem c6_12_s (hw : Cur w) : W Try.prog 41 V6 c6_12 Q e w = (W Try.prog 41 V6 c6_13 (blockQ 1 Q) e w) := by rw [(by kernel_rfl : c6_12 = .block 1 c6_13), W_block]
theorem c6_10_s (hw : Cur w) : W Try.prog 41 V6 c6_10 Q e w = (W Try.prog 41 V6 c6_12 (seqQ (fun e w => W Try.prog 41 V6 c6_11 Q e w) Q) e w) := by rw [(by kernel_rfl : c6_10 = .seq c6_12 c6_11), W_seq]
theorem o6_7_eq : opsW N M G 41 V6 o6_7 k o6_7.toList [] e e w =
    (M (e 9) fun t20 =>
    M (e 2) fun t21 =>
    N (builtin Builtin.len #[49] 3 ([false]).toArray ([t21]).toArray) w fun t22 w =>
    N (xv (xbin BinOp.lss 3 (Operand.tmp 20) (Operand.tmp 22) t20 t22)) w fun t23 w =>
    k (Env.p e 23 t23) w) := nr (by kernel_rfl)
theorem c6_17_v : opV V6 (.tmp 23) = true := by kernel_rfl
theorem c6_17_s (hw : Cur w) : W Try.prog 41 V6 c6_17 Q e w = (condP (ev e (.tmp 23)) (Q .normal e w) (Q (.exit 0) e w)) := by rw [(by kernel_rfl : c6_17 = .cond (.tmp 23) Code.skip (Code.exit 0)), W_cond, c6_17_v, cond_true]; simp only [W_ret, W_skip, W_exit, W_label]
theorem c6_16_s (hw : Cur w) : W Try.prog 41 V6 c6_16 Q e w = (opsW (nx Try.prog) mv gdP 41 V6 o6_7 (fun e w => W Try.prog 41 V6 c6_17 Q e w) o6_7.toList [] e e w) := by rw [(by kernel_rfl : c6_16 = .seq (.region 7 o6_7 false) c6_17), W_seq_reg]
theorem c6_9_s (hw : Cur w) : W Try.prog 41 V6 c6_9 Q e w = (W Try.prog 41 V6 c6_16 (seqQ (fun e w => W Try.prog 41 V6 c6_10 Q e w) Q) e w) := by rw [(by kernel_rfl : c6_9 = .seq c6_16 c6_10), W_seq]
theorem c6_8_s (hw : Cur w) : W Try.prog 41 V6 c6_8 Q e w = (LoopP (fun e w k => W Try.prog 41 V6 c6_9 (seqQ k Q) e w) e w) := by rw [(by kernel_rfl : c6_8 = .loop c6_9), W_loop]
theorem c6_7_s (hw : Cur w) : W Try.prog 41 V6 c6_7 Q e w = (W Try.prog 41 V6 c6_8 (blockQ 0 Q) e w) := by rw [(by kernel_rfl : c6_7 = .block 0 c6_8), W_block]
theorem c6_6_s (hw : Cur w) : W Try.prog 41 V6 c6_6 Q e w = (opsW (nx Try.prog) mv gdP 41 V6 o6_6 (fun e w => W Try.prog 41 V6 c6_7 Q e w) o6_6.toList [] e e w) := by rw [(by kernel_rfl : c6_6 = .seq (.region 6 o6_6 false) c6_7), W_seq_reg]
theorem c6_4_s (hw : Cur w) : W Try.prog 41 V6 c6_4 Q e w = (W Try.prog 41 V6 c6_6 (seqQ (fun e w => W Try.prog 41 V6 c6_5 Q e w) Q) e w) := by rw [(by kernel_rfl : c6_4 = .seq c6_6 c6_5), W_seq]
theorem o6_4_eq : opsW N M G 41 V6 o6_4 k o6_4.toList [] e e w =
    (M (e 7) fun t18 =>
    N (xv (xbin BinOp.eql 50 (Operand.tmp 18) (Operand.const (Value.pointer none)) t18 (Value.pointer none))) w fun t19 w =>
    k (Env.p e 19 t19) w) := nr (by kernel_rfl)
theorem o6_5_eq : opsW N M G 41 V6 o6_5 k o6_5.toList [] e e w =
    (M (Value.bool false) fun t6 =>
    k (Env.p e 6 t6) w) := nr (by kernel_rfl)
theorem c6_20_s (hw : Cur w) : W Try.prog 41 V6 c6_20 Q e w = (opsW (nx Try.prog) mv gdP 41 V6 o6_5 (fun e w => Q .ret e w) o6_5.toList [] e e w) := by rw [(by kernel_rfl : c6_20 = .seq (.region 5 o6_5 false) Code.ret), W_seq_reg]; simp only [W_ret, W_skip, W_exit, W_label]
theorem c6_19_v : opV V6 (.tmp 19) = true := by kernel_rfl
theorem c6_19_s (hw : Cur w) : W Try.prog 41 V6 c6_19 Q e w = (condP (ev e (.tmp 19)) (W Try.prog 41 V6 c6_20 Q e w) (Q .normal e w)) := by rw [(by kernel_rfl : c6_19 = .cond (.tmp 19) c6_20 Code.skip), W_cond, c6_19_v, cond_true]; simp only [W_ret, W_skip, W_exit, W_label]
theorem c6_18_s (hw : Cur w) : W Try.prog 41 V6 c6_18 Q e w = (opsW (nx Try.prog) mv gdP 41 V6 o6_4 (fun e w => W Try.prog 41 V6 c6_19 Q e w) o6_4.toList [] e e w) := by rw [(by kernel_rfl : c6_18 = .seq (.region 4 o6_4 false) c6_19), W_seq_reg]
theorem c6_3_s (hw : Cur w) : W Try.prog 41 V6 c6_3 Q e w = (W Try.prog 41 V6 c6_18 (seqQ (fun e w => W Try.prog 41 V6 c6_4 Q e w) Q) e w) := by rw [(by kernel_rfl : c6_3 = .seq c6_18 c6_4), W_seq]
theorem c6_2_s (hw : Cur w) : W Try.prog 41 V6 c6_2 Q e w = (opsW (nx Try.prog) mv gdP 41 V6 o6_3 (fun e w => W Try.prog 41 V6 c6_3 Q e w) o6_3.toList [] e e w) := by rw [(by kernel_rfl : c6_2 = .seq (.region 3 o6_3 false) c6_3), W_seq_reg]
theorem o6_1_eq : opsW N M G 41 V6 o6_1 k o6_1.toList [] e e w =
    (N (xcall (Value.func (Fn.func 25) #[] #[]) []) w fun t10 w =>
    N (xv (Op.unary UnOp.not t10)) w fun t11 w =>
    k (Env.p e 11 t11) w) := nr (by kernel_rfl)
theorem o6_2_eq : opsW N M G 41 V6 o6_2 k o6_2.toList [] e e w =
    (M (Value.bool false) fun t6 =>
    k (Env.p e 6 t6) w) := nr (by kernel_rfl)
theorem c6_23_s (hw : Cur w) : W Try.prog 41 V6 c6_23 Q e w = (opsW (nx Try.prog) mv gdP 41 V6 o6_2 (fun e w => Q .ret e w) o6_2.toList [] e e w) := by rw [(by kernel_rfl : c6_23 = .seq (.region 2 o6_2 false) Code.ret), W_seq_reg]; simp only [W_ret, W_skip, W_exit, W_label]
theorem c6_22_v : opV V6 (.tmp 11) = true := by kernel_rfl
theorem c6_22_s (hw : Cur w) : W Try.prog 41 V6 c6_22 Q e w = (condP (ev e (.tmp 11)) (W Try.prog 41 V6 c6_23 Q e w) (Q .normal e w)) := by rw [(by kernel_rfl : c6_22 = .cond (.tmp 11) c6_23 Code.skip), W_cond, c6_22_v, cond_true]; simp only [W_ret, W_skip, W_exit, W_label]
theorem c6_21_s (hw : Cur w) : W Try.prog 41 V6 c6_21 Q e w = (opsW (nx Try.prog) mv gdP 41 V6 o6_1 (fun e w => W Try.prog 41 V6 c6_22 Q e w) o6_1.toList [] e e w) := by rw [(by kernel_rfl : c6_21 = .seq (.region 1 o6_1 false) c6_22), W_seq_reg]
theorem c6_1_s (hw : Cur w) : W Try.prog 41 V6 c6_1 Q e w = (W Try.prog 41 V6 c6_21 (seqQ (fun e w => W Try.prog 41 V6 c6_2 Q e w) Q) e w) := by rw [(by kernel_rfl : c6_1 = .seq c6_21 c6_2), W_seq]
theorem c6_s (hw : Cur w) : W Try.prog 41 V6 c6 Q e w = (opsW (nx Try.prog) mv gdP 41 V6 o6_0 (fun e w => W Try.prog 41 V6 c6_1 Q e w) o6_0.toList [] e e w) := by rw [(by kernel_rfl : c6 = .seq (.region 0 o6_0 false) c6_1), W_seq_reg]
theorem call6 {a0 a1 a2 : Value} {w : World} {R : Value → World → Prop} (h : W Try.prog 41 V6 c6 (retQ Try.prog [.tmp 6] R) (argE [a0, a1, a2]) w) : CallsN Try.prog 6 [a0, a1, a2] w R :=
  callsN_of_W (c := c6) (rs := [.tmp 6]) V6 Try.ntmps6 (by rw [Try.results6]) mixed Try.func6 (by kernel_rfl) (by kernel_rfl) (by kernel_rfl) (by kernel_rfl) (by simp) h
noncomputable def hk6 := And.intro (@o6_0_eq) <| And.intro (@o6_3_eq) <| And.intro (@o6_11_eq) <| And.intro (@c6_5_s) <| And.intro (@o6_6_eq) <| And.intro (@o6_8_eq) <| And.intro (@c6_11_s) <| And.intro (@o6_9_eq) <| And.intro (@o6_10_eq) <| And.intro (@c6_15_s) <| And.intro (@c6_14_s) <| And.intro (@c6_13_s) <| And.intro (@c6_12_s) <| And.intro (@c6_10_s) <| And.intro (@o6_7_eq) <| And.intro (@c6_17_s) <| And.intro (@c6_16_s) <| And.intro (@c6_9_s) <| And.intro (@c6_8_s) <| And.intro (@c6_7_s) <| And.intro (@c6_6_s) <| And.intro (@c6_4_s) <| And.intro (@o6_4_eq) <| And.intro (@o6_5_eq) <| And.intro (@c6_20_s) <| And.intro (@c6_19_s) <| And.intro (@c6_18_s) <| And.intro (@c6_3_s) <| And.intro (@c6_2_s) <| And.intro (@o6_1_eq) <| And.intro (@o6_2_eq) <| And.intro (@c6_23_s) <| And.intro (@c6_22_s) <| And.intro (@c6_21_s) <| And.intro (@c6_1_s) <| @c6_s
-- K6: ↓hk6
/-! ### vouch/vouchlaw07.GapClones -/
def V9 : Nat → Bool := fun i => [0, 1, 2, 6, 7, 8, 9, 10, 11, 12, 13, 14, 16, 24, 34, 54, 60, 72, 82].elem i
noncomputable def c9 : Code := (Try.f9.body.getD .skip)
noncomputable def o9_0 : Array Oper := rO (cL c9)
noncomputable def c9_1 : Code := (cR c9)
noncomputable def c9_2 : Code := (cR c9_1)
noncomputable def o9_3 : Array Oper := rO (cL c9_2)
noncomputable def c9_3 : Code := (cR c9_2)
noncomputable def c9_4 : Code := (cR c9_3)
noncomputable def o9_9 : Array Oper := rO (cL c9_4)
noncomputable def c9_5 : Code := (cR c9_4)
noncomputable def c9_6 : Code := (cR c9_5)
noncomputable def o9_12 : Array Oper := rO (cL c9_6)
noncomputable def c9_7 : Code := (cR c9_6)
noncomputable def c9_8 : Code := (cR c9_7)
noncomputable def o9_17 : Array Oper := rO (cL c9_8)
noncomputable def c9_9 : Code := (cR c9_8)
noncomputable def c9_10 : Code := (cR c9_9)
noncomputable def o9_23 : Array Oper := rO (cL c9_10)
noncomputable def c9_11 : Code := (cL c9_9)
noncomputable def o9_18 : Array Oper := rO (cL c9_11)
noncomputable def c9_12 : Code := (cR c9_11)
noncomputable def c9_13 : Code := (cL c9_12)
noncomputable def c9_14 : Code := (cL c9_13)
noncomputable def c9_15 : Code := (cR c9_14)
noncomputable def c9_16 : Code := (cR c9_15)
noncomputable def o9_20 : Array Oper := rO c9_16
noncomputable def c9_17 : Code := (cL c9_15)
noncomputable def c9_18 : Code := (cL c9_17)
noncomputable def o9_21 : Array Oper := rO (cL c9_18)
noncomputable def c9_19 : Code := (cR c9_18)
noncomputable def c9_20 : Code := (cL c9_19)
noncomputable def o9_22 : Array Oper := rO (cL c9_20)
noncomputable def c9_21 : Code := (cL c9_14)
noncomputable def o9_19 : Array Oper := rO (cL c9_21)
noncomputable def c9_22 : Code := (cR c9_21)
noncomputable def c9_23 : Code := (cL c9_7)
noncomputable def o9_13 : Array Oper := rO (cL c9_23)
noncomputable def c9_24 : Code := (cR c9_23)
noncomputable def c9_25 : Code := (cL c9_24)
noncomputable def c9_26 : Code := (cL c9_25)
noncomputable def c9_27 : Code := (cR c9_26)
noncomputable def c9_28 : Code := (cR c9_27)
noncomputable def o9_15 : Array Oper := rO c9_28
noncomputable def c9_29 : Code := (cL c9_27)
noncomputable def c9_30 : Code := (cL c9_29)
noncomputable def o9_16 : Array Oper := rO c9_30
noncomputable def c9_31 : Code := (cL c9_26)
noncomputable def o9_14 : Array Oper := rO (cL c9_31)
noncomputable def c9_32 : Code := (cR c9_31)
noncomputable def c9_33 : Code := (cL c9_5)
noncomputable def o9_10 : Array Oper := rO (cL c9_33)
noncomputable def c9_34 : Code := (cR c9_33)
noncomputable def c9_35 : Code := (cL c9_34)
noncomputable def o9_11 : Array Oper := rO (cL c9_35)
noncomputable def c9_36 : Code := (cL c9_3)
noncomputable def o9_4 : Array Oper := rO (cL c9_36)
noncomputable def c9_37 : Code := (cR c9_36)
noncomputable def c9_38 : Code := (cL c9_37)
noncomputable def c9_39 : Code := (cL c9_38)
noncomputable def c9_40 : Code := (cR c9_39)
noncomputable def c9_41 : Code := (cR c9_40)
noncomputable def o9_6 : Array Oper := rO c9_41
noncomputable def c9_42 : Code := (cL c9_40)
noncomputable def c9_43 : Code := (cL c9_42)
noncomputable def o9_7 : Array Oper := rO (cL c9_43)
noncomputable def c9_44 : Code := (cR c9_43)
noncomputable def c9_45 : Code := (cL c9_44)
noncomputable def o9_8 : Array Oper := rO (cL c9_45)
noncomputable def c9_46 : Code := (cL c9_39)
noncomputable def o9_5 : Array Oper := rO (cL c9_46)
noncomputable def c9_47 : Code := (cR c9_46)
noncomputable def c9_48 : Code := (cL c9_1)
noncomputable def o9_1 : Array Oper := rO (cL c9_48)
noncomputable def c9_49 : Code := (cR c9_48)
noncomputable def c9_50 : Code := (cL c9_49)
noncomputable def o9_2 : Array Oper := rO (cL c9_50)
theorem o9_0_eq : opsW N M G 97 V9 o9_0 k o9_0.toList [] e e w =
    (M (Value.bool false) fun t6 =>
    k (Env.p e 6 t6) w) := nr (by kernel_rfl)
theorem o9_3_eq : opsW N M G 97 V9 o9_3 k o9_3.toList [] e e w =
    (M (e 0) fun t17 =>
    N (xcall (Value.func (Fn.func 26) #[] #[]) [(Value.int IntKind.i64 0), t17]) w fun t18 w =>
    M (e 0) fun t19 =>
    N (xcall (Value.func (Fn.func 27) #[] #[]) [(Value.int IntKind.i64 0), t19]) w fun t20 w =>
    M t18 fun t7 =>
    M t20 fun t8 =>
    k (Env.p (Env.p e 7 t7) 8 t8) w) := nr (by kernel_rfl)
theorem o9_9_eq : drawGo N T M G H 97 V9 o9_9 S k o9_9.size true (Array.replicate o9_9.size false) [] e e w =
    (M (e 7) fun t35 =>
    M (e 8) fun t37 =>
    T (xnil t37) fun t38 =>
    T (xv (Instr.fieldAt 62 t38 0)) fun t39 =>
    T (xv (Instr.loadAt 2 t39)) fun t40 =>
    M (e 8) fun t41 =>
    T (xnil t41) fun t42 =>
    T (xv (Instr.fieldAt 62 t42 1)) fun t43 =>
    T (xv (Instr.loadAt 3 t43)) fun t44 =>
    M (e 8) fun t46 =>
    T (xnil t46) fun t47 =>
    T (xv (Instr.fieldAt 62 t47 2)) fun t48 =>
    T (xv (Instr.loadAt 60 t48)) fun t49 =>
    (N (xcall (Value.func (Fn.func 38) #[] #[]) [t35]) w fun t36 w =>
    S w ∧ (N (xv (Instr.buildSlice 60 0 ([]).toArray)) w fun t45 w =>
    S w ∧ (N (builtin Builtin.append #[60, 60] 60 ([false, false]).toArray ([t45, t49]).toArray) w fun t50 w =>
    S w ∧ (T (xv (Instr.build 62 ([(0, t40), (1, t44), (2, t50)]).toArray)) fun t51 =>
    M t36 fun t10 =>
    N (xv (Instr.box 62 t51)) w fun t52 w =>
    S w ∧ (M t52 fun t11 =>
    k (Env.p (Env.p e 10 t10) 11 t11) w))))) ∧ (N (xv (Instr.buildSlice 60 0 ([]).toArray)) w fun t45 w =>
    S w ∧ (N (xcall (Value.func (Fn.func 38) #[] #[]) [t35]) w fun t36 w =>
    S w ∧ (N (builtin Builtin.append #[60, 60] 60 ([false, false]).toArray ([t45, t49]).toArray) w fun t50 w =>
    S w ∧ (T (xv (Instr.build 62 ([(0, t40), (1, t44), (2, t50)]).toArray)) fun t51 =>
    M t36 fun t10 =>
    N (xv (Instr.box 62 t51)) w fun t52 w =>
    S w ∧ (M t52 fun t11 =>
    k (Env.p (Env.p e 10 t10) 11 t11) w)))))) := nr (by kernel_rfl)
theorem o9_12_eq : opsW N M G 97 V9 o9_12 k o9_12.toList [] e e w =
    (M (e 7) fun t55 =>
    N (xcall (Value.func (Fn.func 39) #[] #[]) [t55]) w fun t56 w =>
    M t56 fun t12 =>
    k (Env.p e 12 t12) w) := nr (by kernel_rfl)
theorem o9_17_eq : opsW N M G 97 V9 o9_17 k o9_17.toList [] e e w =
    (M (e 12) fun t66 =>
    N (xv (Instr.buildSlice 71 1 ([(0, (Value.int IntKind.i64 (-2)))]).toArray)) w fun t67 w =>
    N (builtin Builtin.append #[71, 71] 71 ([false, false]).toArray ([t66, t67]).toArray) w fun t68 w =>
    M t68 fun t12 =>
    k (Env.p e 12 t12) w) := nr (by kernel_rfl)
theorem o9_23_eq : drawGo N T M G H 97 V9 o9_23 S k o9_23.size true (Array.replicate o9_23.size false) [] e e w =
    (M (e 7) fun t83 =>
    M (e 8) fun t85 =>
    N (xcall (Value.func (Fn.func 39) #[] #[]) [t83]) w fun t84 w =>
    S w ∧ (N (xcall (Value.func (Fn.func 41) #[] #[]) [t85]) w fun t86 w =>
    S w ∧ (N (xcall (Value.func (Fn.func 40) #[] #[]) [t84, t86]) w fun t87 w =>
    S w ∧ (M t87 fun t88 =>
    H (isB t88 true) (fun K => M (e 7) K) (fun t89 =>
    H (isB t88 true) (fun K => M (e 8) K) (fun t91 =>
    H (isB t88 true) (fun K => T (xnil t91) K) (fun t92 =>
    H (isB t88 true) (fun K => T (xv (Instr.fieldAt 62 t92 0)) K) (fun t93 =>
    H (isB t88 true) (fun K => T (xv (Instr.loadAt 2 t93)) K) (fun t94 =>
    G (isB t88 true) (fun K => N (xcall (Value.func (Fn.func 29) #[] #[]) [t89]) w K) (fun t90 w =>
    S w ∧ (H (isB t88 true) (fun K => T (xv (xbin BinOp.eql 2 (Operand.tmp 90) (Operand.tmp 94) t90 t94)) K) (fun t95 =>
    T (xpick t88 t95 (Value.bool false)) fun t96 =>
    M t96 fun t6 =>
    k (Env.p e 6 t6) w))) w))))))))) := nr (by kernel_rfl)
theorem c9_10_s (hw : Cur w) : W Try.prog 97 V9 c9_10 Q e w = (∃ S : World → Prop, S w.drew ∧ drawGo (nx Try.prog) (takeP Try.prog S) mv gdP gdT 97 V9 o9_23 S (fun e w => Q .ret e w) o9_23.size true (Array.replicate o9_23.size false) [] e e w.drew) := by rw [(by kernel_rfl : c9_10 = .seq (.region 23 o9_23 true) Code.ret), W_seq_regD]; simp only [W_ret, W_skip, W_exit, W_label]
theorem o9_18_eq : opsW N M G 97 V9 o9_18 k o9_18.toList [] e e w =
    (M (Value.int IntKind.i64 0) fun t14 =>
    k (Env.p e 14 t14) w) := nr (by kernel_rfl)
theorem o9_20_eq : opsW N M G 97 V9 o9_20 k o9_20.toList [] e e w =
    (M (e 14) fun t73 =>
    N (xv (xbin BinOp.add 3 (Operand.tmp 73) (Operand.const (Value.int IntKind.i64 1)) t73 (Value.int IntKind.i64 1))) w fun t74 w =>
    M t74 fun t14 =>
    k (Env.p e 14 t14) w) := nr (by kernel_rfl)
theorem c9_16_s (hw : Cur w) : W Try.prog 97 V9 c9_16 Q e w = (opsW (nx Try.prog) mv gdP 97 V9 o9_20 (fun e w => Q .normal e w) o9_20.toList [] e e w) := by rw [(by kernel_rfl : c9_16 = (.region 20 o9_20 false)), W_reg]
theorem o9_21_eq : opsW N M G 97 V9 o9_21 k o9_21.toList [] e e w =
    (M (e 10) fun t75 =>
    M (e 11) fun t76 =>
    M (e 2) fun t77 =>
    M (e 14) fun t78 =>
    N (xv (Instr.indexAt 49 t77 t78)) w fun t79 w =>
    N (xv (Instr.loadAt 59 t79)) w fun t80 w =>
    N (xcall (Value.func (Fn.func 28) #[] #[]) [t75, t76, t80]) w fun t81 w =>
    N (xv (Op.unary UnOp.not t81)) w fun t82 w =>
    k (Env.p e 82 t82) w) := nr (by kernel_rfl)
theorem o9_22_eq : opsW N M G 97 V9 o9_22 k o9_22.toList [] e e w =
    (M (Value.bool false) fun t6 =>
    k (Env.p e 6 t6) w) := nr (by kernel_rfl)
theorem c9_20_s (hw : Cur w) : W Try.prog 97 V9 c9_20 Q e w = (opsW (nx Try.prog) mv gdP 97 V9 o9_22 (fun e w => Q .ret e w) o9_22.toList [] e e w) := by rw [(by kernel_rfl : c9_20 = .seq (.region 22 o9_22 false) Code.ret), W_seq_reg]; simp only [W_ret, W_skip, W_exit, W_label]
theorem c9_19_v : opV V9 (.tmp 82) = true := by kernel_rfl
theorem c9_19_s (hw : Cur w) : W Try.prog 97 V9 c9_19 Q e w = (condP (ev e (.tmp 82)) (W Try.prog 97 V9 c9_20 Q e w) (Q .normal e w)) := by rw [(by kernel_rfl : c9_19 = .cond (.tmp 82) c9_20 Code.skip), W_cond, c9_19_v, cond_true]; simp only [W_ret, W_skip, W_exit, W_label]
theorem c9_18_s (hw : Cur w) : W Try.prog 97 V9 c9_18 Q e w = (opsW (nx Try.prog) mv gdP 97 V9 o9_21 (fun e w => W Try.prog 97 V9 c9_19 Q e w) o9_21.toList [] e e w) := by rw [(by kernel_rfl : c9_18 = .seq (.region 21 o9_21 false) c9_19), W_seq_reg]
theorem c9_17_s (hw : Cur w) : W Try.prog 97 V9 c9_17 Q e w = (W Try.prog 97 V9 c9_18 (blockQ 5 Q) e w) := by rw [(by kernel_rfl : c9_17 = .block 5 c9_18), W_block]
theorem c9_15_s (hw : Cur w) : W Try.prog 97 V9 c9_15 Q e w = (W Try.prog 97 V9 c9_17 (seqQ (fun e w => W Try.prog 97 V9 c9_16 Q e w) Q) e w) := by rw [(by kernel_rfl : c9_15 = .seq c9_17 c9_16), W_seq]
theorem o9_19_eq : opsW N M G 97 V9 o9_19 k o9_19.toList [] e e w =
    (M (e 14) fun t69 =>
    M (e 2) fun t70 =>
    N (builtin Builtin.len #[49] 3 ([false]).toArray ([t70]).toArray) w fun t71 w =>
    N (xv (xbin BinOp.lss 3 (Operand.tmp 69) (Operand.tmp 71) t69 t71)) w fun t72 w =>
    k (Env.p e 72 t72) w) := nr (by kernel_rfl)
theorem c9_22_v : opV V9 (.tmp 72) = true := by kernel_rfl
theorem c9_22_s (hw : Cur w) : W Try.prog 97 V9 c9_22 Q e w = (condP (ev e (.tmp 72)) (Q .normal e w) (Q (.exit 4) e w)) := by rw [(by kernel_rfl : c9_22 = .cond (.tmp 72) Code.skip (Code.exit 4)), W_cond, c9_22_v, cond_true]; simp only [W_ret, W_skip, W_exit, W_label]
theorem c9_21_s (hw : Cur w) : W Try.prog 97 V9 c9_21 Q e w = (opsW (nx Try.prog) mv gdP 97 V9 o9_19 (fun e w => W Try.prog 97 V9 c9_22 Q e w) o9_19.toList [] e e w) := by rw [(by kernel_rfl : c9_21 = .seq (.region 19 o9_19 false) c9_22), W_seq_reg]
theorem c9_14_s (hw : Cur w) : W Try.prog 97 V9 c9_14 Q e w = (W Try.prog 97 V9 c9_21 (seqQ (fun e w => W Try.prog 97 V9 c9_15 Q e w) Q) e w) := by rw [(by kernel_rfl : c9_14 = .seq c9_21 c9_15), W_seq]
theorem c9_13_s (hw : Cur w) : W Try.prog 97 V9 c9_13 Q e w = (LoopP (fun e w k => W Try.prog 97 V9 c9_14 (seqQ k Q) e w) e w) := by rw [(by kernel_rfl : c9_13 = .loop c9_14), W_loop]
theorem c9_12_s (hw : Cur w) : W Try.prog 97 V9 c9_12 Q e w = (W Try.prog 97 V9 c9_13 (blockQ 4 Q) e w) := by rw [(by kernel_rfl : c9_12 = .block 4 c9_13), W_block]
theorem c9_11_s (hw : Cur w) : W Try.prog 97 V9 c9_11 Q e w = (opsW (nx Try.prog) mv gdP 97 V9 o9_18 (fun e w => W Try.prog 97 V9 c9_12 Q e w) o9_18.toList [] e e w) := by rw [(by kernel_rfl : c9_11 = .seq (.region 18 o9_18 false) c9_12), W_seq_reg]
theorem c9_9_s (hw : Cur w) : W Try.prog 97 V9 c9_9 Q e w = (W Try.prog 97 V9 c9_11 (seqQ (fun e w => W Try.prog 97 V9 c9_10 Q e w) Q) e w) := by rw [(by kernel_rfl : c9_9 = .seq c9_11 c9_10), W_seq]
theorem c9_8_s (hw : Cur w) : W Try.prog 97 V9 c9_8 Q e w = (opsW (nx Try.prog) mv gdP 97 V9 o9_17 (fun e w => W Try.prog 97 V9 c9_9 Q e w) o9_17.toList [] e e w) := by rw [(by kernel_rfl : c9_8 = .seq (.region 17 o9_17 false) c9_9), W_seq_reg]
theorem o9_13_eq : opsW N M G 97 V9 o9_13 k o9_13.toList [] e e w =
    (M (Value.int IntKind.i64 0) fun t13 =>
    k (Env.p e 13 t13) w) := nr (by kernel_rfl)
theorem o9_15_eq : opsW N M G 97 V9 o9_15 k o9_15.toList [] e e w =
    (M (e 13) fun t61 =>
    N (xv (xbin BinOp.add 3 (Operand.tmp 61) (Operand.const (Value.int IntKind.i64 1)) t61 (Value.int IntKind.i64 1))) w fun t62 w =>
    M t62 fun t13 =>
    k (Env.p e 13 t13) w) := nr (by kernel_rfl)
theorem c9_28_s (hw : Cur w) : W Try.prog 97 V9 c9_28 Q e w = (opsW (nx Try.prog) mv gdP 97 V9 o9_15 (fun e w => Q .normal e w) o9_15.toList [] e e w) := by rw [(by kernel_rfl : c9_28 = (.region 15 o9_15 false)), W_reg]
theorem o9_16_eq : opsW N M G 97 V9 o9_16 k o9_16.toList [] e e w =
    (M (e 12) fun t63 =>
    M (e 13) fun t64 =>
    N (xv (Instr.indexAt 71 t63 t64)) w fun t65 w =>
    N (xu (Instr.storeAt 2 t65 (Value.int IntKind.i64 (-1)))) w fun _ w =>
    k e w) := nr (by kernel_rfl)
theorem c9_30_s (hw : Cur w) : W Try.prog 97 V9 c9_30 Q e w = (opsW (nx Try.prog) mv gdP 97 V9 o9_16 (fun e w => Q .normal e w) o9_16.toList [] e e w) := by rw [(by kernel_rfl : c9_30 = (.region 16 o9_16 false)), W_reg]
theorem c9_29_s (hw : Cur w) : W Try.prog 97 V9 c9_29 Q e w = (W Try.prog 97 V9 c9_30 (blockQ 3 Q) e w) := by rw [(by kernel_rfl : c9_29 = .block 3 c9_30), W_block]
theorem c9_27_s (hw : Cur w) : W Try.prog 97 V9 c9_27 Q e w = (W Try.prog 97 V9 c9_29 (seqQ (fun e w => W Try.prog 97 V9 c9_28 Q e w) Q) e w) := by rw [(by kernel_rfl : c9_27 = .seq c9_29 c9_28), W_seq]
theorem o9_14_eq : opsW N M G 97 V9 o9_14 k o9_14.toList [] e e w =
    (M (e 13) fun t57 =>
    M (e 12) fun t58 =>
    N (builtin Builtin.len #[71] 3 ([false]).toArray ([t58]).toArray) w fun t59 w =>
    N (xv (xbin BinOp.lss 3 (Operand.tmp 57) (Operand.tmp 59) t57 t59)) w fun t60 w =>
    k (Env.p e 60 t60) w) := nr (by kernel_rfl)
theorem c9_32_v : opV V9 (.tmp 60) = true := by kernel_rfl
theorem c9_32_s (hw : Cur w) : W Try.prog 97 V9 c9_32 Q e w = (condP (ev e (.tmp 60)) (Q .normal e w) (Q (.exit 2) e w)) := by rw [(by kernel_rfl : c9_32 = .cond (.tmp 60) Code.skip (Code.exit 2)), W_cond, c9_32_v, cond_true]; simp only [W_ret, W_skip, W_exit, W_label]
theorem c9_31_s (hw : Cur w) : W Try.prog 97 V9 c9_31 Q e w = (opsW (nx Try.prog) mv gdP 97 V9 o9_14 (fun e w => W Try.prog 97 V9 c9_32 Q e w) o9_14.toList [] e e w) := by rw [(by kernel_rfl : c9_31 = .seq (.region 14 o9_14 false) c9_32), W_seq_reg]
theorem c9_26_s (hw : Cur w) : W Try.prog 97 V9 c9_26 Q e w = (W Try.prog 97 V9 c9_31 (seqQ (fun e w => W Try.prog 97 V9 c9_27 Q e w) Q) e w) := by rw [(by kernel_rfl : c9_26 = .seq c9_31 c9_27), W_seq]
theorem c9_25_s (hw : Cur w) : W Try.prog 97 V9 c9_25 Q e w = (LoopP (fun e w k => W Try.prog 97 V9 c9_26 (seqQ k Q) e w) e w) := by rw [(by kernel_rfl : c9_25 = .loop c9_26), W_loop]
theorem c9_24_s (hw : Cur w) : W Try.prog 97 V9 c9_24 Q e w = (W Try.prog 97 V9 c9_25 (blockQ 2 Q) e w) := by rw [(by kernel_rfl : c9_24 = .block 2 c9_25), W_block]
theorem c9_23_s (hw : Cur w) : W Try.prog 97 V9 c9_23 Q e w = (opsW (nx Try.prog) mv gdP 97 V9 o9_13 (fun e w => W Try.prog 97 V9 c9_24 Q e w) o9_13.toList [] e e w) := by rw [(by kernel_rfl : c9_23 = .seq (.region 13 o9_13 false) c9_24), W_seq_reg]
theorem c9_7_s (hw : Cur w) : W Try.prog 97 V9 c9_7 Q e w = (W Try.prog 97 V9 c9_23 (seqQ (fun e w => W Try.prog 97 V9 c9_8 Q e w) Q) e w) := by rw [(by kernel_rfl : c9_7 = .seq c9_23 c9_8), W_seq]
theorem c9_6_s (hw : Cur w) : W Try.prog 97 V9 c9_6 Q e w = (opsW (nx Try.prog) mv gdP 97 V9 o9_12 (fun e w => W Try.prog 97 V9 c9_7 Q e w) o9_12.toList [] e e w) := by rw [(by kernel_rfl : c9_6 = .seq (.region 12 o9_12 false) c9_7), W_seq_reg]
theorem o9_10_eq : opsW N M G 97 V9 o9_10 k o9_10.toList [] e e w =
    (M (e 10) fun t53 =>
    N (xv (xbin BinOp.eql 50 (Operand.tmp 53) (Operand.const (Value.pointer none)) t53 (Value.pointer none))) w fun t54 w =>
    k (Env.p e 54 t54) w) := nr (by kernel_rfl)
theorem o9_11_eq : opsW N M G 97 V9 o9_11 k o9_11.toList [] e e w =
    (M (Value.bool false) fun t6 =>
    k (Env.p e 6 t6) w) := nr (by kernel_rfl)
theorem c9_35_s (hw : Cur w) : W Try.prog 97 V9 c9_35 Q e w = (opsW (nx Try.prog) mv gdP 97 V9 o9_11 (fun e w => Q .ret e w) o9_11.toList [] e e w) := by rw [(by kernel_rfl : c9_35 = .seq (.region 11 o9_11 false) Code.ret), W_seq_reg]; simp only [W_ret, W_skip, W_exit, W_label]
theorem c9_34_v : opV V9 (.tmp 54) = true := by kernel_rfl
theorem c9_34_s (hw : Cur w) : W Try.prog 97 V9 c9_34 Q e w = (condP (ev e (.tmp 54)) (W Try.prog 97 V9 c9_35 Q e w) (Q .normal e w)) := by rw [(by kernel_rfl : c9_34 = .cond (.tmp 54) c9_35 Code.skip), W_cond, c9_34_v, cond_true]; simp only [W_ret, W_skip, W_exit, W_label]
theorem c9_33_s (hw : Cur w) : W Try.prog 97 V9 c9_33 Q e w = (opsW (nx Try.prog) mv gdP 97 V9 o9_10 (fun e w => W Try.prog 97 V9 c9_34 Q e w) o9_10.toList [] e e w) := by rw [(by kernel_rfl : c9_33 = .seq (.region 10 o9_10 false) c9_34), W_seq_reg]
theorem c9_5_s (hw : Cur w) : W Try.prog 97 V9 c9_5 Q e w = (W Try.prog 97 V9 c9_33 (seqQ (fun e w => W Try.prog 97 V9 c9_6 Q e w) Q) e w) := by rw [(by kernel_rfl : c9_5 = .seq c9_33 c9_6), W_seq]
theorem c9_4_s (hw : Cur w) : W Try.prog 97 V9 c9_4 Q e w = (∃ S : World → Prop, S w.drew ∧ drawGo (nx Try.prog) (takeP Try.prog S) mv gdP gdT 97 V9 o9_9 S (fun e w => W Try.prog 97 V9 c9_5 Q e w) o9_9.size true (Array.replicate o9_9.size false) [] e e w.drew) := by rw [(by kernel_rfl : c9_4 = .seq (.region 9 o9_9 true) c9_5), W_seq_regD]
theorem o9_4_eq : opsW N M G 97 V9 o9_4 k o9_4.toList [] e e w =
    (M (Value.int IntKind.i64 0) fun t9 =>
    k (Env.p e 9 t9) w) := nr (by kernel_rfl)
theorem o9_6_eq : opsW N M G 97 V9 o9_6 k o9_6.toList [] e e w =
    (M (e 9) fun t25 =>
    N (xv (xbin BinOp.add 3 (Operand.tmp 25) (Operand.const (Value.int IntKind.i64 1)) t25 (Value.int IntKind.i64 1))) w fun t26 w =>
    M t26 fun t9 =>
    k (Env.p e 9 t9) w) := nr (by kernel_rfl)
theorem c9_41_s (hw : Cur w) : W Try.prog 97 V9 c9_41 Q e w = (opsW (nx Try.prog) mv gdP 97 V9 o9_6 (fun e w => Q .normal e w) o9_6.toList [] e e w) := by rw [(by kernel_rfl : c9_41 = (.region 6 o9_6 false)), W_reg]
theorem o9_7_eq : opsW N M G 97 V9 o9_7 k o9_7.toList [] e e w =
    (M (e 7) fun t27 =>
    M (e 8) fun t28 =>
    M (e 1) fun t29 =>
    M (e 9) fun t30 =>
    N (xv (Instr.indexAt 49 t29 t30)) w fun t31 w =>
    N (xv (Instr.loadAt 59 t31)) w fun t32 w =>
    N (xcall (Value.func (Fn.func 28) #[] #[]) [t27, t28, t32]) w fun t33 w =>
    N (xv (Op.unary UnOp.not t33)) w fun t34 w =>
    k (Env.p e 34 t34) w) := nr (by kernel_rfl)
theorem o9_8_eq : opsW N M G 97 V9 o9_8 k o9_8.toList [] e e w =
    (M (Value.bool false) fun t6 =>
    k (Env.p e 6 t6) w) := nr (by kernel_rfl)
theorem c9_45_s (hw : Cur w) : W Try.prog 97 V9 c9_45 Q e w = (opsW (nx Try.prog) mv gdP 97 V9 o9_8 (fun e w => Q .ret e w) o9_8.toList [] e e w) := by rw [(by kernel_rfl : c9_45 = .seq (.region 8 o9_8 false) Code.ret), W_seq_reg]; simp only [W_ret, W_skip, W_exit, W_label]
theorem c9_44_v : opV V9 (.tmp 34) = true := by kernel_rfl
theorem c9_44_s (hw : Cur w) : W Try.prog 97 V9 c9_44 Q e w = (condP (ev e (.tmp 34)) (W Try.prog 97 V9 c9_45 Q e w) (Q .normal e w)) := by rw [(by kernel_rfl : c9_44 = .cond (.tmp 34) c9_45 Code.skip), W_cond, c9_44_v, cond_true]; simp only [W_ret, W_skip, W_exit, W_label]
theorem c9_43_s (hw : Cur w) : W Try.prog 97 V9 c9_43 Q e w = (opsW (nx Try.prog) mv gdP 97 V9 o9_7 (fun e w => W Try.prog 97 V9 c9_44 Q e w) o9_7.toList [] e e w) := by rw [(by kernel_rfl : c9_43 = .seq (.region 7 o9_7 false) c9_44), W_seq_reg]
theorem c9_42_s (hw : Cur w) : W Try.prog 97 V9 c9_42 Q e w = (W Try.prog 97 V9 c9_43 (blockQ 1 Q) e w) := by rw [(by kernel_rfl : c9_42 = .block 1 c9_43), W_block]
theorem c9_40_s (hw : Cur w) : W Try.prog 97 V9 c9_40 Q e w = (W Try.prog 97 V9 c9_42 (seqQ (fun e w => W Try.prog 97 V9 c9_41 Q e w) Q) e w) := by rw [(by kernel_rfl : c9_40 = .seq c9_42 c9_41), W_seq]
theorem o9_5_eq : opsW N M G 97 V9 o9_5 k o9_5.toList [] e e w =
    (M (e 9) fun t21 =>
    M (e 1) fun t22 =>
    N (builtin Builtin.len #[49] 3 ([false]).toArray ([t22]).toArray) w fun t23 w =>
    N (xv (xbin BinOp.lss 3 (Operand.tmp 21) (Operand.tmp 23) t21 t23)) w fun t24 w =>
    k (Env.p e 24 t24) w) := nr (by kernel_rfl)
theorem c9_47_v : opV V9 (.tmp 24) = true := by kernel_rfl
theorem c9_47_s (hw : Cur w) : W Try.prog 97 V9 c9_47 Q e w = (condP (ev e (.tmp 24)) (Q .normal e w) (Q (.exit 0) e w)) := by rw [(by kernel_rfl : c9_47 = .cond (.tmp 24) Code.skip (Code.exit 0)), W_cond, c9_47_v, cond_true]; simp only [W_ret, W_skip, W_exit, W_label]
theorem c9_46_s (hw : Cur w) : W Try.prog 97 V9 c9_46 Q e w = (opsW (nx Try.prog) mv gdP 97 V9 o9_5 (fun e w => W Try.prog 97 V9 c9_47 Q e w) o9_5.toList [] e e w) := by rw [(by kernel_rfl : c9_46 = .seq (.region 5 o9_5 false) c9_47), W_seq_reg]
theorem c9_39_s (hw : Cur w) : W Try.prog 97 V9 c9_39 Q e w = (W Try.prog 97 V9 c9_46 (seqQ (fun e w => W Try.prog 97 V9 c9_40 Q e w) Q) e w) := by rw [(by kernel_rfl : c9_39 = .seq c9_46 c9_40), W_seq]
theorem c9_38_s (hw : Cur w) : W Try.prog 97 V9 c9_38 Q e w = (LoopP (fun e w k => W Try.prog 97 V9 c9_39 (seqQ k Q) e w) e w) := by rw [(by kernel_rfl : c9_38 = .loop c9_39), W_loop]
theorem c9_37_s (hw : Cur w) : W Try.prog 97 V9 c9_37 Q e w = (W Try.prog 97 V9 c9_38 (blockQ 0 Q) e w) := by rw [(by kernel_rfl : c9_37 = .block 0 c9_38), W_block]
theorem c9_36_s (hw : Cur w) : W Try.prog 97 V9 c9_36 Q e w = (opsW (nx Try.prog) mv gdP 97 V9 o9_4 (fun e w => W Try.prog 97 V9 c9_37 Q e w) o9_4.toList [] e e w) := by rw [(by kernel_rfl : c9_36 = .seq (.region 4 o9_4 false) c9_37), W_seq_reg]
theorem c9_3_s (hw : Cur w) : W Try.prog 97 V9 c9_3 Q e w = (W Try.prog 97 V9 c9_36 (seqQ (fun e w => W Try.prog 97 V9 c9_4 Q e w) Q) e w) := by rw [(by kernel_rfl : c9_3 = .seq c9_36 c9_4), W_seq]
theorem c9_2_s (hw : Cur w) : W Try.prog 97 V9 c9_2 Q e w = (opsW (nx Try.prog) mv gdP 97 V9 o9_3 (fun e w => W Try.prog 97 V9 c9_3 Q e w) o9_3.toList [] e e w) := by rw [(by kernel_rfl : c9_2 = .seq (.region 3 o9_3 false) c9_3), W_seq_reg]
theorem o9_1_eq : opsW N M G 97 V9 o9_1 k o9_1.toList [] e e w =
    (N (xcall (Value.func (Fn.func 25) #[] #[]) []) w fun t15 w =>
    N (xv (Op.unary UnOp.not t15)) w fun t16 w =>
    k (Env.p e 16 t16) w) := nr (by kernel_rfl)
theorem o9_2_eq : opsW N M G 97 V9 o9_2 k o9_2.toList [] e e w =
    (M (Value.bool false) fun t6 =>
    k (Env.p e 6 t6) w) := nr (by kernel_rfl)
theorem c9_50_s (hw : Cur w) : W Try.prog 97 V9 c9_50 Q e w = (opsW (nx Try.prog) mv gdP 97 V9 o9_2 (fun e w => Q .ret e w) o9_2.toList [] e e w) := by rw [(by kernel_rfl : c9_50 = .seq (.region 2 o9_2 false) Code.ret), W_seq_reg]; simp only [W_ret, W_skip, W_exit, W_label]
theorem c9_49_v : opV V9 (.tmp 16) = true := by kernel_rfl
theorem c9_49_s (hw : Cur w) : W Try.prog 97 V9 c9_49 Q e w = (condP (ev e (.tmp 16)) (W Try.prog 97 V9 c9_50 Q e w) (Q .normal e w)) := by rw [(by kernel_rfl : c9_49 = .cond (.tmp 16) c9_50 Code.skip), W_cond, c9_49_v, cond_true]; simp only [W_ret, W_skip, W_exit, W_label]
theorem c9_48_s (hw : Cur w) : W Try.prog 97 V9 c9_48 Q e w = (opsW (nx Try.prog) mv gdP 97 V9 o9_1 (fun e w => W Try.prog 97 V9 c9_49 Q e w) o9_1.toList [] e e w) := by rw [(by kernel_rfl : c9_48 = .seq (.region 1 o9_1 false) c9_49), W_seq_reg]
theorem c9_1_s (hw : Cur w) : W Try.prog 97 V9 c9_1 Q e w = (W Try.prog 97 V9 c9_48 (seqQ (fun e w => W Try.prog 97 V9 c9_2 Q e w) Q) e w) := by rw [(by kernel_rfl : c9_1 = .seq c9_48 c9_2), W_seq]
theorem c9_s (hw : Cur w) : W Try.prog 97 V9 c9 Q e w = (opsW (nx Try.prog) mv gdP 97 V9 o9_0 (fun e w => W Try.prog 97 V9 c9_1 Q e w) o9_0.toList [] e e w) := by rw [(by kernel_rfl : c9 = .seq (.region 0 o9_0 false) c9_1), W_seq_reg]
theorem call9 {a0 a1 a2 : Value} {w : World} {R : Value → World → Prop} (h : W Try.prog 97 V9 c9 (retQ Try.prog [.tmp 6] R) (argE [a0, a1, a2]) w) : CallsN Try.prog 9 [a0, a1, a2] w R :=
  callsN_of_W (c := c9) (rs := [.tmp 6]) V9 Try.ntmps9 (by rw [Try.results9]) mixed Try.func9 (by kernel_rfl) (by kernel_rfl) (by kernel_rfl) (by kernel_rfl) (by simp) h
noncomputable def hk9 := And.intro (@o9_0_eq) <| And.intro (@o9_3_eq) <| And.intro (@o9_9_eq) <| And.intro (@o9_12_eq) <| And.intro (@o9_17_eq) <| And.intro (@o9_23_eq) <| And.intro (@c9_10_s) <| And.intro (@o9_18_eq) <| And.intro (@o9_20_eq) <| And.intro (@c9_16_s) <| And.intro (@o9_21_eq) <| And.intro (@o9_22_eq) <| And.intro (@c9_20_s) <| And.intro (@c9_19_s) <| And.intro (@c9_18_s) <| And.intro (@c9_17_s) <| And.intro (@c9_15_s) <| And.intro (@o9_19_eq) <| And.intro (@c9_22_s) <| And.intro (@c9_21_s) <| And.intro (@c9_14_s) <| And.intro (@c9_13_s) <| And.intro (@c9_12_s) <| And.intro (@c9_11_s) <| And.intro (@c9_9_s) <| And.intro (@c9_8_s) <| And.intro (@o9_13_eq) <| And.intro (@o9_15_eq) <| And.intro (@c9_28_s) <| And.intro (@o9_16_eq) <| And.intro (@c9_30_s) <| And.intro (@c9_29_s) <| And.intro (@c9_27_s) <| And.intro (@o9_14_eq) <| And.intro (@c9_32_s) <| And.intro (@c9_31_s) <| And.intro (@c9_26_s) <| And.intro (@c9_25_s) <| And.intro (@c9_24_s) <| And.intro (@c9_23_s) <| And.intro (@c9_7_s) <| And.intro (@c9_6_s) <| And.intro (@o9_10_eq) <| And.intro (@o9_11_eq) <| And.intro (@c9_35_s) <| And.intro (@c9_34_s) <| And.intro (@c9_33_s) <| And.intro (@c9_5_s) <| And.intro (@c9_4_s) <| And.intro (@o9_4_eq) <| And.intro (@o9_6_eq) <| And.intro (@c9_41_s) <| And.intro (@o9_7_eq) <| And.intro (@o9_8_eq) <| And.intro (@c9_45_s) <| And.intro (@c9_44_s) <| And.intro (@c9_43_s) <| And.intro (@c9_42_s) <| And.intro (@c9_40_s) <| And.intro (@o9_5_eq) <| And.intro (@c9_47_s) <| And.intro (@c9_46_s) <| And.intro (@c9_39_s) <| And.intro (@c9_38_s) <| And.intro (@c9_37_s) <| And.intro (@c9_36_s) <| And.intro (@c9_3_s) <| And.intro (@c9_2_s) <| And.intro (@o9_1_eq) <| And.intro (@o9_2_eq) <| And.intro (@c9_50_s) <| And.intro (@c9_49_s) <| And.intro (@c9_48_s) <| And.intro (@c9_1_s) <| @c9_s
-- K9: ↓hk9
/-! ### vouch/vouchlaw07.step -/
def V28 : Nat → Bool := fun i => [0, 1, 2, 5, 6, 7, 8, 9, 10, 11, 12, 14, 50, 56].elem i
noncomputable def c28 : Code := (Try.f28.body.getD .skip)
noncomputable def o28_0 : Array Oper := rO (cL c28)
noncomputable def c28_1 : Code := (cR c28)
noncomputable def c28_2 : Code := (cR c28_1)
noncomputable def o28_8 : Array Oper := rO (cL c28_2)
noncomputable def c28_3 : Code := (cR c28_2)
noncomputable def o28_9 : Array Oper := rO (cL c28_3)
noncomputable def c28_4 : Code := (cR c28_3)
noncomputable def c28_5 : Code := (cR c28_4)
noncomputable def o28_12 : Array Oper := rO (cL c28_5)
noncomputable def c28_6 : Code := (cL c28_4)
noncomputable def o28_10 : Array Oper := rO (cL c28_6)
noncomputable def c28_7 : Code := (cR c28_6)
noncomputable def c28_8 : Code := (cL c28_7)
noncomputable def o28_11 : Array Oper := rO c28_8
noncomputable def c28_9 : Code := (cL c28_1)
noncomputable def o28_1 : Array Oper := rO (cL c28_9)
noncomputable def c28_10 : Code := (cR c28_9)
noncomputable def c28_11 : Code := (cL c28_10)
noncomputable def o28_2 : Array Oper := rO (cL c28_11)
noncomputable def c28_12 : Code := (cR c28_11)
noncomputable def o28_3 : Array Oper := rO c28_12
noncomputable def c28_13 : Code := (cR c28_10)
noncomputable def o28_4 : Array Oper := rO (cL c28_13)
noncomputable def c28_14 : Code := (cR c28_13)
noncomputable def o28_5 : Array Oper := rO (cL c28_14)
noncomputable def c28_15 : Code := (cR c28_14)
noncomputable def o28_6 : Array Oper := rO (cL c28_15)
noncomputable def c28_16 : Code := (cR c28_15)
noncomputable def c28_17 : Code := (cL c28_16)
noncomputable def o28_7 : Array Oper := rO (cL c28_17)
theorem o28_0_eq : opsW N M G 85 V28 o28_0 k o28_0.toList [] e e w =
    (N (xv (Instr.box 59 (e 2))) w fun t5 w =>
    M (Value.bool false) fun t6 =>
    k (Env.p (Env.p e 5 t5) 6 t6) w) := nr (by kernel_rfl)
theorem o28_8_eq : opsW N M G 85 V28 o28_8 k o28_8.toList [] e e w =
    (M (e 1) fun t51 =>
    N (xcall (Value.func (Fn.func 41) #[] #[]) [t51]) w fun t52 w =>
    M t52 fun t11 =>
    k (Env.p e 11 t11) w) := nr (by kernel_rfl)
theorem o28_9_eq : opsW N M G 85 V28 o28_9 k o28_9.toList [] e e w =
    (N (xv (Instr.build 86 ([]).toArray)) w fun t53 w =>
    N (xv (Instr.alloc 86 true (.tuple #[]))) w fun t12 w =>
    N (xu (Instr.storeAt 86 t12 t53)) w fun _ w =>
    k (Env.p e 12 t12) w) := nr (by kernel_rfl)
theorem o28_12_eq : drawGo N T M G H 85 V28 o28_12 S k o28_12.size true (Array.replicate o28_12.size false) [] e e w =
    (M (e 0) fun t66 =>
    M (e 1) fun t68 =>
    T (xnil t68) fun t69 =>
    T (xv (Instr.fieldAt 62 t69 0)) fun t70 =>
    T (xv (Instr.loadAt 2 t70)) fun t71 =>
    N (xcall (Value.func (Fn.func 29) #[] #[]) [t66]) w fun t67 w =>
    S w ∧ (T (xv (xbin BinOp.eql 2 (Operand.tmp 67) (Operand.tmp 71) t67 t71)) fun t72 =>
    M t72 fun t73 =>
    H (isB t73 true) (fun K => M (e 0) K) (fun t74 =>
    H (isB t73 true) (fun K => M (e 11) K) (fun t76 =>
    G (isB t73 true) (fun K => N (xcall (Value.func (Fn.func 39) #[] #[]) [t74]) w K) (fun t75 w =>
    S w ∧ (G (isB t73 true) (fun K => N (xcall (Value.func (Fn.func 40) #[] #[]) [t75, t76]) w K) (fun t77 w =>
    S w ∧ (T (xpick t73 t77 (Value.bool false)) fun t78 =>
    M t78 fun t79 =>
    H (isB t79 true) (fun K => M (e 0) K) (fun t80 =>
    H (isB t79 true) (fun K => T (xv (Instr.loadAt 86 (e 12))) K) (fun t82 =>
    G (isB t79 true) (fun K => N (xcall (Value.func (Fn.func 60) #[] #[]) [t80]) w K) (fun t81 w =>
    S w ∧ (H (isB t79 true) (fun K => T (xv (xbin BinOp.eql 86 (Operand.tmp 81) (Operand.tmp 82) t81 t82)) K) (fun t83 =>
    T (xpick t79 t83 (Value.bool false)) fun t84 =>
    M t84 fun t6 =>
    k (Env.p e 6 t6) w))) w)))) w)) w)))) := nr (by kernel_rfl)
theorem c28_5_s (hw : Cur w) : W Try.prog 85 V28 c28_5 Q e w = (∃ S : World → Prop, S w.drew ∧ drawGo (nx Try.prog) (takeP Try.prog S) mv gdP gdT 85 V28 o28_12 S (fun e w => Q .ret e w) o28_12.size true (Array.replicate o28_12.size false) [] e e w.drew) := by rw [(by kernel_rfl : c28_5 = .seq (.region 12 o28_12 true) Code.ret), W_seq_regD]; simp only [W_ret, W_skip, W_exit, W_label]
theorem o28_10_eq : opsW N M G 85 V28 o28_10 k o28_10.toList [] e e w =
    (M (e 11) fun t54 =>
    N (builtin Builtin.len #[71] 3 ([false]).toArray ([t54]).toArray) w fun t55 w =>
    N (xv (xbin BinOp.gtr 3 (Operand.tmp 55) (Operand.const (Value.int IntKind.i64 0)) t55 (Value.int IntKind.i64 0))) w fun t56 w =>
    k (Env.p e 56 t56) w) := nr (by kernel_rfl)
theorem o28_11_eq : drawGo N T M G H 85 V28 o28_11 S k o28_11.size true (Array.replicate o28_11.size false) [] e e w =
    (M (e 1) fun t57 =>
    T (xnil t57) fun t58 =>
    T (xv (Instr.fieldAt 62 t58 0)) fun t59 =>
    T (xv (Instr.loadAt 2 t59)) fun t60 =>
    T (xv (xbin BinOp.add 2 (Operand.tmp 60) (Operand.const (Value.int IntKind.i64 1)) t60 (Value.int IntKind.i64 1))) fun t61 =>
    M (e 11) fun t62 =>
    T (xv (Instr.indexAt 71 t62 (Value.int IntKind.i64 0))) fun t63 =>
    T (xv (Instr.loadAt 2 t63)) fun t64 =>
    T (xv (Instr.build 86 ([(0, t61), (1, t64)]).toArray)) fun t65 =>
    N (xu (Instr.storeAt 86 (e 12) t65)) w fun _ w =>
    k e w) := nr (by kernel_rfl)
theorem c28_8_s (hw : Cur w) : W Try.prog 85 V28 c28_8 Q e w = (∃ S : World → Prop, S w.drew ∧ drawGo (nx Try.prog) (takeP Try.prog S) mv gdP gdT 85 V28 o28_11 S (fun e w => Q .normal e w) o28_11.size true (Array.replicate o28_11.size false) [] e e w.drew) := by rw [(by kernel_rfl : c28_8 = (.region 11 o28_11 true)), W_regD']
theorem c28_7_v : opV V28 (.tmp 56) = true := by kernel_rfl
theorem c28_7_s (hw : Cur w) : W Try.prog 85 V28 c28_7 Q e w = (condP (ev e (.tmp 56)) (W Try.prog 85 V28 c28_8 Q e w) (Q .normal e w)) := by rw [(by kernel_rfl : c28_7 = .cond (.tmp 56) c28_8 Code.skip), W_cond, c28_7_v, cond_true]; simp only [W_ret, W_skip, W_exit, W_label]
theorem c28_6_s (hw : Cur w) : W Try.prog 85 V28 c28_6 Q e w = (opsW (nx Try.prog) mv gdP 85 V28 o28_10 (fun e w => W Try.prog 85 V28 c28_7 Q e w) o28_10.toList [] e e w) := by rw [(by kernel_rfl : c28_6 = .seq (.region 10 o28_10 false) c28_7), W_seq_reg]
theorem c28_4_s (hw : Cur w) : W Try.prog 85 V28 c28_4 Q e w = (W Try.prog 85 V28 c28_6 (seqQ (fun e w => W Try.prog 85 V28 c28_5 Q e w) Q) e w) := by rw [(by kernel_rfl : c28_4 = .seq c28_6 c28_5), W_seq]
theorem c28_3_s (hw : Cur w) : W Try.prog 85 V28 c28_3 Q e w = (opsW (nx Try.prog) mv gdP 85 V28 o28_9 (fun e w => W Try.prog 85 V28 c28_4 Q e w) o28_9.toList [] e e w) := by rw [(by kernel_rfl : c28_3 = .seq (.region 9 o28_9 false) c28_4), W_seq_reg]
theorem c28_2_s (hw : Cur w) : W Try.prog 85 V28 c28_2 Q e w = (opsW (nx Try.prog) mv gdP 85 V28 o28_8 (fun e w => W Try.prog 85 V28 c28_3 Q e w) o28_8.toList [] e e w) := by rw [(by kernel_rfl : c28_2 = .seq (.region 8 o28_8 false) c28_3), W_seq_reg]
theorem o28_1_eq : opsW N M G 85 V28 o28_1 k o28_1.toList [] e e w =
    (N (xv (Instr.fieldAt 59 (e 5) 0)) w fun t13 w =>
    N (xv (Instr.loadAt 4 t13)) w fun t14 w =>
    k (Env.p e 14 t14) w) := nr (by kernel_rfl)
theorem o28_2_eq : opsW N M G 85 V28 o28_2 k o28_2.toList [] e e w =
    (M (e 0) fun t15 =>
    N (xv (Instr.fieldAt 59 (e 5) 1)) w fun t16 w =>
    N (xv (Instr.fieldAt 54 t16 0)) w fun t17 w =>
    N (xv (Instr.loadAt 2 t17)) w fun t18 w =>
    N (xcall (Value.func (Fn.func 62) #[] #[]) [t15, t18]) w fun t19 w =>
    k e w) := nr (by kernel_rfl)
theorem o28_3_eq : opsW N M G 85 V28 o28_3 k o28_3.toList [] e e w =
    (M (e 1) fun t20 =>
    N (xv (Instr.fieldAt 59 (e 5) 1)) w fun t21 w =>
    N (xv (Instr.fieldAt 54 t21 0)) w fun t22 w =>
    N (xv (Instr.loadAt 2 t22)) w fun t23 w =>
    N (xcall (Value.func (Fn.func 64) #[] #[]) [t20, t23]) w fun t24 w =>
    k e w) := nr (by kernel_rfl)
theorem c28_12_s (hw : Cur w) : W Try.prog 85 V28 c28_12 Q e w = (opsW (nx Try.prog) mv gdP 85 V28 o28_3 (fun e w => Q .normal e w) o28_3.toList [] e e w) := by rw [(by kernel_rfl : c28_12 = (.region 3 o28_3 false)), W_reg]
theorem c28_11_s (hw : Cur w) : W Try.prog 85 V28 c28_11 Q e w = (opsW (nx Try.prog) mv gdP 85 V28 o28_2 (fun e w => W Try.prog 85 V28 c28_12 Q e w) o28_2.toList [] e e w) := by rw [(by kernel_rfl : c28_11 = .seq (.region 2 o28_2 false) c28_12), W_seq_reg]
theorem o28_4_eq : opsW N M G 85 V28 o28_4 k o28_4.toList [] e e w =
    (M (e 0) fun t26 =>
    N (xv (Instr.fieldAt 59 (e 5) 1)) w fun t27 w =>
    N (xv (Instr.fieldAt 54 t27 0)) w fun t28 w =>
    N (xv (Instr.loadAt 2 t28)) w fun t29 w =>
    N (xv (Instr.fieldAt 59 (e 5) 1)) w fun t30 w =>
    N (xv (Instr.loadAt 54 t30)) w fun t31 w =>
    N (xcall (Value.func (Fn.func 58) #[] #[]) [t26, t29, t31]) w fun t32 w =>
    M t32 fun t25 =>
    N (xv (Instr.extract t25 0)) w fun t33 w =>
    N (xv (Instr.extract t25 1)) w fun t34 w =>
    M t33 fun t7 =>
    M t34 fun t8 =>
    k (Env.p (Env.p e 7 t7) 8 t8) w) := nr (by kernel_rfl)
theorem o28_5_eq : opsW N M G 85 V28 o28_5 k o28_5.toList [] e e w =
    (M (e 1) fun t36 =>
    N (xv (Instr.fieldAt 59 (e 5) 1)) w fun t37 w =>
    N (xv (Instr.loadAt 54 t37)) w fun t38 w =>
    N (xcall (Value.func (Fn.func 65) #[] #[]) [t36, t38]) w fun t39 w =>
    M t39 fun t35 =>
    N (xv (Instr.extract t35 0)) w fun t40 w =>
    N (xv (Instr.extract t35 1)) w fun t41 w =>
    M t40 fun t9 =>
    M t41 fun t10 =>
    k (Env.p (Env.p e 9 t9) 10 t10) w) := nr (by kernel_rfl)
theorem o28_6_eq : opsW N M G 85 V28 o28_6 k o28_6.toList [] e e w =
    (M (e 8) fun t42 =>
    M (e 10) fun t43 =>
    N (xv (xbin BinOp.neq 4 (Operand.tmp 42) (Operand.tmp 43) t42 t43)) w fun t44 w =>
    M t44 fun t45 =>
    G (isB t45 false) (fun K => M (e 7) fun v => K v w) (fun t46 w =>
    G (isB t45 false) (fun K => M (e 9) fun v => K v w) (fun t47 w =>
    G (isB t45 false) (fun K => N (xcall (Value.func (Fn.func 61) #[] #[]) [t46, t47]) w K) (fun t48 w =>
    G (isB t45 false) (fun K => N (xv (Op.unary UnOp.not t48)) w K) (fun t49 w =>
    N (xpick t45 (Value.bool true) t49) w fun t50 w =>
    k (Env.p e 50 t50) w) w) w) w) w) := nr (by kernel_rfl)
theorem o28_7_eq : opsW N M G 85 V28 o28_7 k o28_7.toList [] e e w =
    (M (Value.bool false) fun t6 =>
    k (Env.p e 6 t6) w) := nr (by kernel_rfl)
theorem c28_17_s (hw : Cur w) : W Try.prog 85 V28 c28_17 Q e w = (opsW (nx Try.prog) mv gdP 85 V28 o28_7 (fun e w => Q .ret e w) o28_7.toList [] e e w) := by rw [(by kernel_rfl : c28_17 = .seq (.region 7 o28_7 false) Code.ret), W_seq_reg]; simp only [W_ret, W_skip, W_exit, W_label]
theorem c28_16_v : opV V28 (.tmp 50) = true := by kernel_rfl
theorem c28_16_s (hw : Cur w) : W Try.prog 85 V28 c28_16 Q e w = (condP (ev e (.tmp 50)) (W Try.prog 85 V28 c28_17 Q e w) (Q .normal e w)) := by rw [(by kernel_rfl : c28_16 = .cond (.tmp 50) c28_17 Code.skip), W_cond, c28_16_v, cond_true]; simp only [W_ret, W_skip, W_exit, W_label]
theorem c28_15_s (hw : Cur w) : W Try.prog 85 V28 c28_15 Q e w = (opsW (nx Try.prog) mv gdP 85 V28 o28_6 (fun e w => W Try.prog 85 V28 c28_16 Q e w) o28_6.toList [] e e w) := by rw [(by kernel_rfl : c28_15 = .seq (.region 6 o28_6 false) c28_16), W_seq_reg]
theorem c28_14_s (hw : Cur w) : W Try.prog 85 V28 c28_14 Q e w = (opsW (nx Try.prog) mv gdP 85 V28 o28_5 (fun e w => W Try.prog 85 V28 c28_15 Q e w) o28_5.toList [] e e w) := by rw [(by kernel_rfl : c28_14 = .seq (.region 5 o28_5 false) c28_15), W_seq_reg]
theorem c28_13_s (hw : Cur w) : W Try.prog 85 V28 c28_13 Q e w = (opsW (nx Try.prog) mv gdP 85 V28 o28_4 (fun e w => W Try.prog 85 V28 c28_14 Q e w) o28_4.toList [] e e w) := by rw [(by kernel_rfl : c28_13 = .seq (.region 4 o28_4 false) c28_14), W_seq_reg]
theorem c28_10_v : opV V28 (.tmp 14) = true := by kernel_rfl
theorem c28_10_s (hw : Cur w) : W Try.prog 85 V28 c28_10 Q e w = (condP (ev e (.tmp 14)) (W Try.prog 85 V28 c28_11 Q e w) (W Try.prog 85 V28 c28_13 Q e w)) := by rw [(by kernel_rfl : c28_10 = .cond (.tmp 14) c28_11 c28_13), W_cond, c28_10_v, cond_true]
theorem c28_9_s (hw : Cur w) : W Try.prog 85 V28 c28_9 Q e w = (opsW (nx Try.prog) mv gdP 85 V28 o28_1 (fun e w => W Try.prog 85 V28 c28_10 Q e w) o28_1.toList [] e e w) := by rw [(by kernel_rfl : c28_9 = .seq (.region 1 o28_1 false) c28_10), W_seq_reg]
theorem c28_1_s (hw : Cur w) : W Try.prog 85 V28 c28_1 Q e w = (W Try.prog 85 V28 c28_9 (seqQ (fun e w => W Try.prog 85 V28 c28_2 Q e w) Q) e w) := by rw [(by kernel_rfl : c28_1 = .seq c28_9 c28_2), W_seq]
theorem c28_s (hw : Cur w) : W Try.prog 85 V28 c28 Q e w = (opsW (nx Try.prog) mv gdP 85 V28 o28_0 (fun e w => W Try.prog 85 V28 c28_1 Q e w) o28_0.toList [] e e w) := by rw [(by kernel_rfl : c28 = .seq (.region 0 o28_0 false) c28_1), W_seq_reg]
theorem call28 {a0 a1 a2 : Value} {w : World} {R : Value → World → Prop} (h : W Try.prog 85 V28 c28 (retQ Try.prog [.tmp 6] R) (argE [a0, a1, a2]) w) : CallsN Try.prog 28 [a0, a1, a2] w R :=
  callsN_of_W (c := c28) (rs := [.tmp 6]) V28 Try.ntmps28 (by rw [Try.results28]) mixed Try.func28 (by kernel_rfl) (by kernel_rfl) (by kernel_rfl) (by kernel_rfl) (by simp) h
noncomputable def hk28 := And.intro (@o28_0_eq) <| And.intro (@o28_8_eq) <| And.intro (@o28_9_eq) <| And.intro (@o28_12_eq) <| And.intro (@c28_5_s) <| And.intro (@o28_10_eq) <| And.intro (@o28_11_eq) <| And.intro (@c28_8_s) <| And.intro (@c28_7_s) <| And.intro (@c28_6_s) <| And.intro (@c28_4_s) <| And.intro (@c28_3_s) <| And.intro (@c28_2_s) <| And.intro (@o28_1_eq) <| And.intro (@o28_2_eq) <| And.intro (@o28_3_eq) <| And.intro (@c28_12_s) <| And.intro (@c28_11_s) <| And.intro (@o28_4_eq) <| And.intro (@o28_5_eq) <| And.intro (@o28_6_eq) <| And.intro (@o28_7_eq) <| And.intro (@c28_17_s) <| And.intro (@c28_16_s) <| And.intro (@c28_15_s) <| And.intro (@c28_14_s) <| And.intro (@c28_13_s) <| And.intro (@c28_10_s) <| And.intro (@c28_9_s) <| And.intro (@c28_1_s) <| @c28_s
-- K28: ↓hk28
/-! ### vouch/vouchref07.New -/
def V27 : Nat → Bool := fun i => [0, 1, 4, 6, 8].elem i
noncomputable def c27 : Code := (Try.f27.body.getD .skip)
noncomputable def o27_0 : Array Oper := rO (cL c27)
noncomputable def c27_1 : Code := (cR c27)
noncomputable def c27_2 : Code := (cR c27_1)
noncomputable def c27_3 : Code := (cR c27_2)
noncomputable def o27_5 : Array Oper := rO (cL c27_3)
noncomputable def c27_4 : Code := (cL c27_2)
noncomputable def o27_3 : Array Oper := rO (cL c27_4)
noncomputable def c27_5 : Code := (cR c27_4)
noncomputable def c27_6 : Code := (cL c27_5)
noncomputable def o27_4 : Array Oper := rO c27_6
noncomputable def c27_7 : Code := (cL c27_1)
noncomputable def o27_1 : Array Oper := rO (cL c27_7)
noncomputable def c27_8 : Code := (cR c27_7)
noncomputable def c27_9 : Code := (cL c27_8)
noncomputable def o27_2 : Array Oper := rO c27_9
theorem o27_0_eq : opsW N M G 14 V27 o27_0 k o27_0.toList [] e e w =
    (M (Value.pointer none) fun t4 =>
    k (Env.p e 4 t4) w) := nr (by kernel_rfl)
theorem o27_5_eq : opsW N M G 14 V27 o27_5 k o27_5.toList [] e e w =
    (M (e 0) fun t9 =>
    N (xcall (Value.func (Fn.func 63) #[] #[]) [t9]) w fun t10 w =>
    M (e 1) fun t11 =>
    N (xv (Instr.build 62 ([(0, t10), (1, t11)]).toArray)) w fun t12 w =>
    N (xv (Instr.box 62 t12)) w fun t13 w =>
    M t13 fun t4 =>
    k (Env.p e 4 t4) w) := nr (by kernel_rfl)
theorem c27_3_s (hw : Cur w) : W Try.prog 14 V27 c27_3 Q e w = (opsW (nx Try.prog) mv gdP 14 V27 o27_5 (fun e w => Q .ret e w) o27_5.toList [] e e w) := by rw [(by kernel_rfl : c27_3 = .seq (.region 5 o27_5 false) Code.ret), W_seq_reg]; simp only [W_ret, W_skip, W_exit, W_label]
theorem o27_3_eq : opsW N M G 14 V27 o27_3 k o27_3.toList [] e e w =
    (M (e 1) fun t7 =>
    N (xv (xbin BinOp.gtr 3 (Operand.tmp 7) (Operand.const (Value.int IntKind.i64 256)) t7 (Value.int IntKind.i64 256))) w fun t8 w =>
    k (Env.p e 8 t8) w) := nr (by kernel_rfl)
theorem o27_4_eq : opsW N M G 14 V27 o27_4 k o27_4.toList [] e e w =
    (M (Value.int IntKind.i64 256) fun t1 =>
    k (Env.p e 1 t1) w) := nr (by kernel_rfl)
theorem c27_6_s (hw : Cur w) : W Try.prog 14 V27 c27_6 Q e w = (opsW (nx Try.prog) mv gdP 14 V27 o27_4 (fun e w => Q .normal e w) o27_4.toList [] e e w) := by rw [(by kernel_rfl : c27_6 = (.region 4 o27_4 false)), W_reg]
theorem c27_5_v : opV V27 (.tmp 8) = true := by kernel_rfl
theorem c27_5_s (hw : Cur w) : W Try.prog 14 V27 c27_5 Q e w = (condP (ev e (.tmp 8)) (W Try.prog 14 V27 c27_6 Q e w) (Q .normal e w)) := by rw [(by kernel_rfl : c27_5 = .cond (.tmp 8) c27_6 Code.skip), W_cond, c27_5_v, cond_true]; simp only [W_ret, W_skip, W_exit, W_label]
theorem c27_4_s (hw : Cur w) : W Try.prog 14 V27 c27_4 Q e w = (opsW (nx Try.prog) mv gdP 14 V27 o27_3 (fun e w => W Try.prog 14 V27 c27_5 Q e w) o27_3.toList [] e e w) := by rw [(by kernel_rfl : c27_4 = .seq (.region 3 o27_3 false) c27_5), W_seq_reg]
theorem c27_2_s (hw : Cur w) : W Try.prog 14 V27 c27_2 Q e w = (W Try.prog 14 V27 c27_4 (seqQ (fun e w => W Try.prog 14 V27 c27_3 Q e w) Q) e w) := by rw [(by kernel_rfl : c27_2 = .seq c27_4 c27_3), W_seq]
theorem o27_1_eq : opsW N M G 14 V27 o27_1 k o27_1.toList [] e e w =
    (M (e 1) fun t5 =>
    N (xv (xbin BinOp.lss 3 (Operand.tmp 5) (Operand.const (Value.int IntKind.i64 0)) t5 (Value.int IntKind.i64 0))) w fun t6 w =>
    k (Env.p e 6 t6) w) := nr (by kernel_rfl)
theorem o27_2_eq : opsW N M G 14 V27 o27_2 k o27_2.toList [] e e w =
    (M (Value.int IntKind.i64 0) fun t1 =>
    k (Env.p e 1 t1) w) := nr (by kernel_rfl)
theorem c27_9_s (hw : Cur w) : W Try.prog 14 V27 c27_9 Q e w = (opsW (nx Try.prog) mv gdP 14 V27 o27_2 (fun e w => Q .normal e w) o27_2.toList [] e e w) := by rw [(by kernel_rfl : c27_9 = (.region 2 o27_2 false)), W_reg]
theorem c27_8_v : opV V27 (.tmp 6) = true := by kernel_rfl
theorem c27_8_s (hw : Cur w) : W Try.prog 14 V27 c27_8 Q e w = (condP (ev e (.tmp 6)) (W Try.prog 14 V27 c27_9 Q e w) (Q .normal e w)) := by rw [(by kernel_rfl : c27_8 = .cond (.tmp 6) c27_9 Code.skip), W_cond, c27_8_v, cond_true]; simp only [W_ret, W_skip, W_exit, W_label]
theorem c27_7_s (hw : Cur w) : W Try.prog 14 V27 c27_7 Q e w = (opsW (nx Try.prog) mv gdP 14 V27 o27_1 (fun e w => W Try.prog 14 V27 c27_8 Q e w) o27_1.toList [] e e w) := by rw [(by kernel_rfl : c27_7 = .seq (.region 1 o27_1 false) c27_8), W_seq_reg]
theorem c27_1_s (hw : Cur w) : W Try.prog 14 V27 c27_1 Q e w = (W Try.prog 14 V27 c27_7 (seqQ (fun e w => W Try.prog 14 V27 c27_2 Q e w) Q) e w) := by rw [(by kernel_rfl : c27_1 = .seq c27_7 c27_2), W_seq]
theorem c27_s (hw : Cur w) : W Try.prog 14 V27 c27 Q e w = (opsW (nx Try.prog) mv gdP 14 V27 o27_0 (fun e w => W Try.prog 14 V27 c27_1 Q e w) o27_0.toList [] e e w) := by rw [(by kernel_rfl : c27 = .seq (.region 0 o27_0 false) c27_1), W_seq_reg]
theorem call27 {a0 a1 : Value} {w : World} {R : Value → World → Prop} (h : W Try.prog 14 V27 c27 (retQ Try.prog [.tmp 4] R) (argE [a0, a1]) w) : CallsN Try.prog 27 [a0, a1] w R :=
  callsN_of_W (c := c27) (rs := [.tmp 4]) V27 Try.ntmps27 (by rw [Try.results27]) mixed Try.func27 (by kernel_rfl) (by kernel_rfl) (by kernel_rfl) (by kernel_rfl) (by simp) h
noncomputable def hk27 := And.intro (@o27_0_eq) <| And.intro (@o27_5_eq) <| And.intro (@c27_3_s) <| And.intro (@o27_3_eq) <| And.intro (@o27_4_eq) <| And.intro (@c27_6_s) <| And.intro (@c27_5_s) <| And.intro (@c27_4_s) <| And.intro (@c27_2_s) <| And.intro (@o27_1_eq) <| And.intro (@o27_2_eq) <| And.intro (@c27_9_s) <| And.intro (@c27_8_s) <| And.intro (@c27_7_s) <| And.intro (@c27_1_s) <| @c27_s
-- K27: ↓hk27
/-! ### vouch/vouchref07.SameNumbers -/
def V40 : Nat → Bool := fun i => [0, 1, 4, 5, 10, 14, 25].elem i
noncomputable def c40 : Code := (Try.f40.body.getD .skip)
noncomputable def o40_0 : Array Oper := rO (cL c40)
noncomputable def c40_1 : Code := (cR c40)
noncomputable def c40_2 : Code := (cR c40_1)
noncomputable def c40_3 : Code := (cR c40_2)
noncomputable def o40_8 : Array Oper := rO (cL c40_3)
noncomputable def c40_4 : Code := (cL c40_2)
noncomputable def o40_3 : Array Oper := rO (cL c40_4)
noncomputable def c40_5 : Code := (cR c40_4)
noncomputable def c40_6 : Code := (cL c40_5)
noncomputable def c40_7 : Code := (cL c40_6)
noncomputable def c40_8 : Code := (cR c40_7)
noncomputable def c40_9 : Code := (cR c40_8)
noncomputable def o40_5 : Array Oper := rO c40_9
noncomputable def c40_10 : Code := (cL c40_8)
noncomputable def c40_11 : Code := (cL c40_10)
noncomputable def o40_6 : Array Oper := rO (cL c40_11)
noncomputable def c40_12 : Code := (cR c40_11)
noncomputable def c40_13 : Code := (cL c40_12)
noncomputable def o40_7 : Array Oper := rO (cL c40_13)
noncomputable def c40_14 : Code := (cL c40_7)
noncomputable def o40_4 : Array Oper := rO (cL c40_14)
noncomputable def c40_15 : Code := (cR c40_14)
noncomputable def c40_16 : Code := (cL c40_1)
noncomputable def o40_1 : Array Oper := rO (cL c40_16)
noncomputable def c40_17 : Code := (cR c40_16)
noncomputable def c40_18 : Code := (cL c40_17)
noncomputable def o40_2 : Array Oper := rO (cL c40_18)
theorem o40_0_eq : opsW N M G 26 V40 o40_0 k o40_0.toList [] e e w =
    (M (Value.bool false) fun t4 =>
    k (Env.p e 4 t4) w) := nr (by kernel_rfl)
theorem o40_8_eq : opsW N M G 26 V40 o40_8 k o40_8.toList [] e e w =
    (M (Value.bool true) fun t4 =>
    k (Env.p e 4 t4) w) := nr (by kernel_rfl)
theorem c40_3_s (hw : Cur w) : W Try.prog 26 V40 c40_3 Q e w = (opsW (nx Try.prog) mv gdP 26 V40 o40_8 (fun e w => Q .ret e w) o40_8.toList [] e e w) := by rw [(by kernel_rfl : c40_3 = .seq (.region 8 o40_8 false) Code.ret), W_seq_reg]; simp only [W_ret, W_skip, W_exit, W_label]
theorem o40_3_eq : opsW N M G 26 V40 o40_3 k o40_3.toList [] e e w =
    (M (Value.int IntKind.i64 0) fun t5 =>
    k (Env.p e 5 t5) w) := nr (by kernel_rfl)
theorem o40_5_eq : opsW N M G 26 V40 o40_5 k o40_5.toList [] e e w =
    (M (e 5) fun t15 =>
    N (xv (xbin BinOp.add 3 (Operand.tmp 15) (Operand.const (Value.int IntKind.i64 1)) t15 (Value.int IntKind.i64 1))) w fun t16 w =>
    M t16 fun t5 =>
    k (Env.p e 5 t5) w) := nr (by kernel_rfl)
theorem c40_9_s (hw : Cur w) : W Try.prog 26 V40 c40_9 Q e w = (opsW (nx Try.prog) mv gdP 26 V40 o40_5 (fun e w => Q .normal e w) o40_5.toList [] e e w) := by rw [(by kernel_rfl : c40_9 = (.region 5 o40_5 false)), W_reg]
theorem o40_6_eq : drawGo N T M G H 26 V40 o40_6 S k o40_6.size true (Array.replicate o40_6.size false) [] e e w =
    (M (e 0) fun t17 =>
    M (e 5) fun t18 =>
    T (xv (Instr.indexAt 71 t17 t18)) fun t19 =>
    T (xv (Instr.loadAt 2 t19)) fun t20 =>
    M (e 1) fun t21 =>
    M (e 5) fun t22 =>
    T (xv (Instr.indexAt 71 t21 t22)) fun t23 =>
    T (xv (Instr.loadAt 2 t23)) fun t24 =>
    T (xv (xbin BinOp.neq 2 (Operand.tmp 20) (Operand.tmp 24) t20 t24)) fun t25 =>
    k (Env.p e 25 t25) w) := nr (by kernel_rfl)
theorem o40_7_eq : opsW N M G 26 V40 o40_7 k o40_7.toList [] e e w =
    (M (Value.bool false) fun t4 =>
    k (Env.p e 4 t4) w) := nr (by kernel_rfl)
theorem c40_13_s (hw : Cur w) : W Try.prog 26 V40 c40_13 Q e w = (opsW (nx Try.prog) mv gdP 26 V40 o40_7 (fun e w => Q .ret e w) o40_7.toList [] e e w) := by rw [(by kernel_rfl : c40_13 = .seq (.region 7 o40_7 false) Code.ret), W_seq_reg]; simp only [W_ret, W_skip, W_exit, W_label]
theorem c40_12_v : opV V40 (.tmp 25) = true := by kernel_rfl
theorem c40_12_s (hw : Cur w) : W Try.prog 26 V40 c40_12 Q e w = (condP (ev e (.tmp 25)) (W Try.prog 26 V40 c40_13 Q e w) (Q .normal e w)) := by rw [(by kernel_rfl : c40_12 = .cond (.tmp 25) c40_13 Code.skip), W_cond, c40_12_v, cond_true]; simp only [W_ret, W_skip, W_exit, W_label]
theorem c40_11_s (hw : Cur w) : W Try.prog 26 V40 c40_11 Q e w = (∃ S : World → Prop, S w.drew ∧ drawGo (nx Try.prog) (takeP Try.prog S) mv gdP gdT 26 V40 o40_6 S (fun e w => W Try.prog 26 V40 c40_12 Q e w) o40_6.size true (Array.replicate o40_6.size false) [] e e w.drew) := by rw [(by kernel_rfl : c40_11 = .seq (.region 6 o40_6 true) c40_12), W_seq_regD]
theorem c40_10_s (hw : Cur w) : W Try.prog 26 V40 c40_10 Q e w = (W Try.prog 26 V40 c40_11 (blockQ 1 Q) e w) := by rw [(by kernel_rfl : c40_10 = .block 1 c40_11), W_block]
theorem c40_8_s (hw : Cur w) : W Try.prog 26 V40 c40_8 Q e w = (W Try.prog 26 V40 c40_10 (seqQ (fun e w => W Try.prog 26 V40 c40_9 Q e w) Q) e w) := by rw [(by kernel_rfl : c40_8 = .seq c40_10 c40_9), W_seq]
theorem o40_4_eq : opsW N M G 26 V40 o40_4 k o40_4.toList [] e e w =
    (M (e 5) fun t11 =>
    M (e 0) fun t12 =>
    N (builtin Builtin.len #[71] 3 ([false]).toArray ([t12]).toArray) w fun t13 w =>
    N (xv (xbin BinOp.lss 3 (Operand.tmp 11) (Operand.tmp 13) t11 t13)) w fun t14 w =>
    k (Env.p e 14 t14) w) := nr (by kernel_rfl)
theorem c40_15_v : opV V40 (.tmp 14) = true := by kernel_rfl
theorem c40_15_s (hw : Cur w) : W Try.prog 26 V40 c40_15 Q e w = (condP (ev e (.tmp 14)) (Q .normal e w) (Q (.exit 0) e w)) := by rw [(by kernel_rfl : c40_15 = .cond (.tmp 14) Code.skip (Code.exit 0)), W_cond, c40_15_v, cond_true]; simp only [W_ret, W_skip, W_exit, W_label]
theorem c40_14_s (hw : Cur w) : W Try.prog 26 V40 c40_14 Q e w = (opsW (nx Try.prog) mv gdP 26 V40 o40_4 (fun e w => W Try.prog 26 V40 c40_15 Q e w) o40_4.toList [] e e w) := by rw [(by kernel_rfl : c40_14 = .seq (.region 4 o40_4 false) c40_15), W_seq_reg]
theorem c40_7_s (hw : Cur w) : W Try.prog 26 V40 c40_7 Q e w = (W Try.prog 26 V40 c40_14 (seqQ (fun e w => W Try.prog 26 V40 c40_8 Q e w) Q) e w) := by rw [(by kernel_rfl : c40_7 = .seq c40_14 c40_8), W_seq]
theorem c40_6_s (hw : Cur w) : W Try.prog 26 V40 c40_6 Q e w = (LoopP (fun e w k => W Try.prog 26 V40 c40_7 (seqQ k Q) e w) e w) := by rw [(by kernel_rfl : c40_6 = .loop c40_7), W_loop]
theorem c40_5_s (hw : Cur w) : W Try.prog 26 V40 c40_5 Q e w = (W Try.prog 26 V40 c40_6 (blockQ 0 Q) e w) := by rw [(by kernel_rfl : c40_5 = .block 0 c40_6), W_block]
theorem c40_4_s (hw : Cur w) : W Try.prog 26 V40 c40_4 Q e w = (opsW (nx Try.prog) mv gdP 26 V40 o40_3 (fun e w => W Try.prog 26 V40 c40_5 Q e w) o40_3.toList [] e e w) := by rw [(by kernel_rfl : c40_4 = .seq (.region 3 o40_3 false) c40_5), W_seq_reg]
theorem c40_2_s (hw : Cur w) : W Try.prog 26 V40 c40_2 Q e w = (W Try.prog 26 V40 c40_4 (seqQ (fun e w => W Try.prog 26 V40 c40_3 Q e w) Q) e w) := by rw [(by kernel_rfl : c40_2 = .seq c40_4 c40_3), W_seq]
theorem o40_1_eq : opsW N M G 26 V40 o40_1 k o40_1.toList [] e e w =
    (M (e 0) fun t6 =>
    N (builtin Builtin.len #[71] 3 ([false]).toArray ([t6]).toArray) w fun t7 w =>
    M (e 1) fun t8 =>
    N (builtin Builtin.len #[71] 3 ([false]).toArray ([t8]).toArray) w fun t9 w =>
    N (xv (xbin BinOp.neq 3 (Operand.tmp 7) (Operand.tmp 9) t7 t9)) w fun t10 w =>
    k (Env.p e 10 t10) w) := nr (by kernel_rfl)
theorem o40_2_eq : opsW N M G 26 V40 o40_2 k o40_2.toList [] e e w =
    (M (Value.bool false) fun t4 =>
    k (Env.p e 4 t4) w) := nr (by kernel_rfl)
theorem c40_18_s (hw : Cur w) : W Try.prog 26 V40 c40_18 Q e w = (opsW (nx Try.prog) mv gdP 26 V40 o40_2 (fun e w => Q .ret e w) o40_2.toList [] e e w) := by rw [(by kernel_rfl : c40_18 = .seq (.region 2 o40_2 false) Code.ret), W_seq_reg]; simp only [W_ret, W_skip, W_exit, W_label]
theorem c40_17_v : opV V40 (.tmp 10) = true := by kernel_rfl
theorem c40_17_s (hw : Cur w) : W Try.prog 26 V40 c40_17 Q e w = (condP (ev e (.tmp 10)) (W Try.prog 26 V40 c40_18 Q e w) (Q .normal e w)) := by rw [(by kernel_rfl : c40_17 = .cond (.tmp 10) c40_18 Code.skip), W_cond, c40_17_v, cond_true]; simp only [W_ret, W_skip, W_exit, W_label]
theorem c40_16_s (hw : Cur w) : W Try.prog 26 V40 c40_16 Q e w = (opsW (nx Try.prog) mv gdP 26 V40 o40_1 (fun e w => W Try.prog 26 V40 c40_17 Q e w) o40_1.toList [] e e w) := by rw [(by kernel_rfl : c40_16 = .seq (.region 1 o40_1 false) c40_17), W_seq_reg]
theorem c40_1_s (hw : Cur w) : W Try.prog 26 V40 c40_1 Q e w = (W Try.prog 26 V40 c40_16 (seqQ (fun e w => W Try.prog 26 V40 c40_2 Q e w) Q) e w) := by rw [(by kernel_rfl : c40_1 = .seq c40_16 c40_2), W_seq]
theorem c40_s (hw : Cur w) : W Try.prog 26 V40 c40 Q e w = (opsW (nx Try.prog) mv gdP 26 V40 o40_0 (fun e w => W Try.prog 26 V40 c40_1 Q e w) o40_0.toList [] e e w) := by rw [(by kernel_rfl : c40 = .seq (.region 0 o40_0 false) c40_1), W_seq_reg]
theorem call40 {a0 a1 : Value} {w : World} {R : Value → World → Prop} (h : W Try.prog 26 V40 c40 (retQ Try.prog [.tmp 4] R) (argE [a0, a1]) w) : CallsN Try.prog 40 [a0, a1] w R :=
  callsN_of_W (c := c40) (rs := [.tmp 4]) V40 Try.ntmps40 (by rw [Try.results40]) mixed Try.func40 (by kernel_rfl) (by kernel_rfl) (by kernel_rfl) (by kernel_rfl) (by simp) h
noncomputable def hk40 := And.intro (@o40_0_eq) <| And.intro (@o40_8_eq) <| And.intro (@c40_3_s) <| And.intro (@o40_3_eq) <| And.intro (@o40_5_eq) <| And.intro (@c40_9_s) <| And.intro (@o40_6_eq) <| And.intro (@o40_7_eq) <| And.intro (@c40_13_s) <| And.intro (@c40_12_s) <| And.intro (@c40_11_s) <| And.intro (@c40_10_s) <| And.intro (@c40_8_s) <| And.intro (@o40_4_eq) <| And.intro (@c40_15_s) <| And.intro (@c40_14_s) <| And.intro (@c40_7_s) <| And.intro (@c40_6_s) <| And.intro (@c40_5_s) <| And.intro (@c40_4_s) <| And.intro (@c40_2_s) <| And.intro (@o40_1_eq) <| And.intro (@o40_2_eq) <| And.intro (@c40_18_s) <| And.intro (@c40_17_s) <| And.intro (@c40_16_s) <| And.intro (@c40_1_s) <| @c40_s
-- K40: ↓hk40
/-! ### (*vouch/vouchref07.Gap) . Waits -/
def V41 : Nat → Bool := fun i => [0, 2, 3, 4, 5, 6, 17, 45, 55].elem i
noncomputable def c41 : Code := (Try.f41.body.getD .skip)
noncomputable def o41_0 : Array Oper := rO (cL c41)
noncomputable def c41_1 : Code := (cR c41)
noncomputable def o41_1 : Array Oper := rO (cL c41_1)
noncomputable def c41_2 : Code := (cR c41_1)
noncomputable def o41_2 : Array Oper := rO (cL c41_2)
noncomputable def c41_3 : Code := (cR c41_2)
noncomputable def c41_4 : Code := (cL c41_3)
noncomputable def c41_5 : Code := (cL c41_4)
noncomputable def c41_6 : Code := (cL c41_5)
noncomputable def o41_3 : Array Oper := rO (cL c41_6)
noncomputable def c41_7 : Code := (cR c41_6)
noncomputable def c41_8 : Code := (cR c41_7)
noncomputable def c41_9 : Code := (cR c41_8)
noncomputable def o41_11 : Array Oper := rO (cL c41_9)
noncomputable def c41_10 : Code := (cR c41_9)
noncomputable def o41_12 : Array Oper := rO c41_10
noncomputable def c41_11 : Code := (cL c41_8)
noncomputable def o41_9 : Array Oper := rO (cL c41_11)
noncomputable def c41_12 : Code := (cR c41_11)
noncomputable def c41_13 : Code := (cL c41_12)
noncomputable def o41_10 : Array Oper := rO (cL c41_13)
noncomputable def c41_14 : Code := (cL c41_7)
noncomputable def o41_4 : Array Oper := rO (cL c41_14)
noncomputable def c41_15 : Code := (cR c41_14)
noncomputable def c41_16 : Code := (cL c41_15)
noncomputable def c41_17 : Code := (cL c41_16)
noncomputable def c41_18 : Code := (cR c41_17)
noncomputable def c41_19 : Code := (cR c41_18)
noncomputable def o41_6 : Array Oper := rO c41_19
noncomputable def c41_20 : Code := (cL c41_18)
noncomputable def c41_21 : Code := (cL c41_20)
noncomputable def o41_7 : Array Oper := rO (cL c41_21)
noncomputable def c41_22 : Code := (cR c41_21)
noncomputable def c41_23 : Code := (cL c41_22)
noncomputable def o41_8 : Array Oper := rO c41_23
noncomputable def c41_24 : Code := (cL c41_17)
noncomputable def o41_5 : Array Oper := rO (cL c41_24)
noncomputable def c41_25 : Code := (cR c41_24)
theorem o41_0_eq : opsW N M G 62 V41 o41_0 k o41_0.toList [] e e w =
    (M (Value.slice none 0 0) fun t2 =>
    k (Env.p e 2 t2) w) := nr (by kernel_rfl)
theorem o41_1_eq : opsW N M G 62 V41 o41_1 k o41_1.toList [] e e w =
    (M (Value.slice none 0 0) fun t3 =>
    k (Env.p e 3 t3) w) := nr (by kernel_rfl)
theorem o41_2_eq : opsW N M G 62 V41 o41_2 k o41_2.toList [] e e w =
    (M (e 0) fun t7 =>
    N (xnil t7) w fun t8 w =>
    N (xv (Instr.fieldAt 62 t8 0)) w fun t9 w =>
    N (xv (Instr.loadAt 2 t9)) w fun t10 w =>
    M t10 fun t4 =>
    k (Env.p e 4 t4) w) := nr (by kernel_rfl)
theorem o41_3_eq : opsW N M G 62 V41 o41_3 k o41_3.toList [] e e w =
    (M (Value.int IntKind.i64 (-1)) fun t5 =>
    k (Env.p e 5 t5) w) := nr (by kernel_rfl)
theorem o41_11_eq : opsW N M G 62 V41 o41_11 k o41_11.toList [] e e w =
    (M (e 3) fun t57 =>
    M (e 5) fun t58 =>
    N (xv (Instr.buildSlice 71 1 ([(0, t58)]).toArray)) w fun t59 w =>
    N (builtin Builtin.append #[71, 71] 71 ([false, false]).toArray ([t57, t59]).toArray) w fun t60 w =>
    M t60 fun t3 =>
    k (Env.p e 3 t3) w) := nr (by kernel_rfl)
theorem o41_12_eq : opsW N M G 62 V41 o41_12 k o41_12.toList [] e e w =
    (M (e 5) fun t61 =>
    M t61 fun t4 =>
    k (Env.p e 4 t4) w) := nr (by kernel_rfl)
theorem c41_10_s (hw : Cur w) : W Try.prog 62 V41 c41_10 Q e w = (opsW (nx Try.prog) mv gdP 62 V41 o41_12 (fun e w => Q .normal e w) o41_12.toList [] e e w) := by rw [(by kernel_rfl : c41_10 = (.region 12 o41_12 false)), W_reg]
theorem c41_9_s (hw : Cur w) : W Try.prog 62 V41 c41_9 Q e w = (opsW (nx Try.prog) mv gdP 62 V41 o41_11 (fun e w => W Try.prog 62 V41 c41_10 Q e w) o41_11.toList [] e e w) := by rw [(by kernel_rfl : c41_9 = .seq (.region 11 o41_11 false) c41_10), W_seq_reg]
theorem o41_9_eq : opsW N M G 62 V41 o41_9 k o41_9.toList [] e e w =
    (M (e 5) fun t54 =>
    N (xv (xbin BinOp.lss 2 (Operand.tmp 54) (Operand.const (Value.int IntKind.i64 0)) t54 (Value.int IntKind.i64 0))) w fun t55 w =>
    k (Env.p e 55 t55) w) := nr (by kernel_rfl)
theorem o41_10_eq : opsW N M G 62 V41 o41_10 k o41_10.toList [] e e w =
    (M (e 3) fun t56 =>
    M t56 fun t2 =>
    k (Env.p e 2 t2) w) := nr (by kernel_rfl)
theorem c41_13_s (hw : Cur w) : W Try.prog 62 V41 c41_13 Q e w = (opsW (nx Try.prog) mv gdP 62 V41 o41_10 (fun e w => Q .ret e w) o41_10.toList [] e e w) := by rw [(by kernel_rfl : c41_13 = .seq (.region 10 o41_10 false) Code.ret), W_seq_reg]; simp only [W_ret, W_skip, W_exit, W_label]
theorem c41_12_v : opV V41 (.tmp 55) = true := by kernel_rfl
theorem c41_12_s (hw : Cur w) : W Try.prog 62 V41 c41_12 Q e w = (condP (ev e (.tmp 55)) (W Try.prog 62 V41 c41_13 Q e w) (Q .normal e w)) := by rw [(by kernel_rfl : c41_12 = .cond (.tmp 55) c41_13 Code.skip), W_cond, c41_12_v, cond_true]; simp only [W_ret, W_skip, W_exit, W_label]
theorem c41_11_s (hw : Cur w) : W Try.prog 62 V41 c41_11 Q e w = (opsW (nx Try.prog) mv gdP 62 V41 o41_9 (fun e w => W Try.prog 62 V41 c41_12 Q e w) o41_9.toList [] e e w) := by rw [(by kernel_rfl : c41_11 = .seq (.region 9 o41_9 false) c41_12), W_seq_reg]
theorem c41_8_s (hw : Cur w) : W Try.prog 62 V41 c41_8 Q e w = (W Try.prog 62 V41 c41_11 (seqQ (fun e w => W Try.prog 62 V41 c41_9 Q e w) Q) e w) := by rw [(by kernel_rfl : c41_8 = .seq c41_11 c41_9), W_seq]
theorem o41_4_eq : opsW N M G 62 V41 o41_4 k o41_4.toList [] e e w =
    (M (Value.int IntKind.i64 0) fun t6 =>
    k (Env.p e 6 t6) w) := nr (by kernel_rfl)
theorem o41_6_eq : opsW N M G 62 V41 o41_6 k o41_6.toList [] e e w =
    (M (e 6) fun t18 =>
    N (xv (xbin BinOp.add 3 (Operand.tmp 18) (Operand.const (Value.int IntKind.i64 1)) t18 (Value.int IntKind.i64 1))) w fun t19 w =>
    M t19 fun t6 =>
    k (Env.p e 6 t6) w) := nr (by kernel_rfl)
theorem c41_19_s (hw : Cur w) : W Try.prog 62 V41 c41_19 Q e w = (opsW (nx Try.prog) mv gdP 62 V41 o41_6 (fun e w => Q .normal e w) o41_6.toList [] e e w) := by rw [(by kernel_rfl : c41_19 = (.region 6 o41_6 false)), W_reg]
theorem o41_7_eq : opsW N M G 62 V41 o41_7 k o41_7.toList [] e e w =
    (M (e 0) fun t20 =>
    N (xnil t20) w fun t21 w =>
    N (xv (Instr.fieldAt 62 t21 2)) w fun t22 w =>
    N (xv (Instr.loadAt 60 t22)) w fun t23 w =>
    M (e 6) fun t24 =>
    N (xv (Instr.indexAt 60 t23 t24)) w fun t25 w =>
    N (xv (Instr.fieldAt 54 t25 0)) w fun t26 w =>
    N (xv (Instr.loadAt 2 t26)) w fun t27 w =>
    M (e 4) fun t28 =>
    N (xv (xbin BinOp.gtr 2 (Operand.tmp 27) (Operand.tmp 28) t27 t28)) w fun t29 w =>
    M t29 fun t30 =>
    G (isB t30 true) (fun K => M (e 5) fun v => K v w) (fun t31 w =>
    G (isB t30 true) (fun K => N (xv (xbin BinOp.lss 2 (Operand.tmp 31) (Operand.const (Value.int IntKind.i64 0)) t31 (Value.int IntKind.i64 0))) w K) (fun t32 w =>
    G (isB t30 true) (fun K => M t32 fun v => K v w) (fun t33 w =>
    G (isB t33 false) (fun K => M (e 0) fun v => K v w) (fun t34 w =>
    G (isB t33 false) (fun K => N (xnil t34) w K) (fun t35 w =>
    G (isB t33 false) (fun K => N (xv (Instr.fieldAt 62 t35 2)) w K) (fun t36 w =>
    G (isB t33 false) (fun K => N (xv (Instr.loadAt 60 t36)) w K) (fun t37 w =>
    G (isB t33 false) (fun K => M (e 6) fun v => K v w) (fun t38 w =>
    G (isB t33 false) (fun K => N (xv (Instr.indexAt 60 t37 t38)) w K) (fun t39 w =>
    G (isB t33 false) (fun K => N (xv (Instr.fieldAt 54 t39 0)) w K) (fun t40 w =>
    G (isB t33 false) (fun K => N (xv (Instr.loadAt 2 t40)) w K) (fun t41 w =>
    G (isB t33 false) (fun K => M (e 5) fun v => K v w) (fun t42 w =>
    G (isB t33 false) (fun K => N (xv (xbin BinOp.lss 2 (Operand.tmp 41) (Operand.tmp 42) t41 t42)) w K) (fun t43 w =>
    G (isB t30 true) (fun K => N (xpick t33 (Value.bool true) t43) w K) (fun t44 w =>
    N (xpick t30 t44 (Value.bool false)) w fun t45 w =>
    k (Env.p e 45 t45) w) w) w) w) w) w) w) w) w) w) w) w) w) w) w) := nr (by kernel_rfl)
theorem o41_8_eq : opsW N M G 62 V41 o41_8 k o41_8.toList [] e e w =
    (M (e 0) fun t46 =>
    N (xnil t46) w fun t47 w =>
    N (xv (Instr.fieldAt 62 t47 2)) w fun t48 w =>
    N (xv (Instr.loadAt 60 t48)) w fun t49 w =>
    M (e 6) fun t50 =>
    N (xv (Instr.indexAt 60 t49 t50)) w fun t51 w =>
    N (xv (Instr.fieldAt 54 t51 0)) w fun t52 w =>
    N (xv (Instr.loadAt 2 t52)) w fun t53 w =>
    M t53 fun t5 =>
    k (Env.p e 5 t5) w) := nr (by kernel_rfl)
theorem c41_23_s (hw : Cur w) : W Try.prog 62 V41 c41_23 Q e w = (opsW (nx Try.prog) mv gdP 62 V41 o41_8 (fun e w => Q .normal e w) o41_8.toList [] e e w) := by rw [(by kernel_rfl : c41_23 = (.region 8 o41_8 false)), W_reg]
theorem c41_22_v : opV V41 (.tmp 45) = true := by kernel_rfl
theorem c41_22_s (hw : Cur w) : W Try.prog 62 V41 c41_22 Q e w = (condP (ev e (.tmp 45)) (W Try.prog 62 V41 c41_23 Q e w) (Q .normal e w)) := by rw [(by kernel_rfl : c41_22 = .cond (.tmp 45) c41_23 Code.skip), W_cond, c41_22_v, cond_true]; simp only [W_ret, W_skip, W_exit, W_label]
theorem c41_21_s (hw : Cur w) : W Try.prog 62 V41 c41_21 Q e w = (opsW (nx Try.prog) mv gdP 62 V41 o41_7 (fun e w => W Try.prog 62 V41 c41_22 Q e w) o41_7.toList [] e e w) := by rw [(by kernel_rfl : c41_21 = .seq (.region 7 o41_7 false) c41_22), W_seq_reg]
theorem c41_20_s (hw : Cur w) : W Try.prog 62 V41 c41_20 Q e w = (W Try.prog 62 V41 c41_21 (blockQ 3 Q) e w) := by rw [(by kernel_rfl : c41_20 = .block 3 c41_21), W_block]
theorem c41_18_s (hw : Cur w) : W Try.prog 62 V41 c41_18 Q e w = (W Try.prog 62 V41 c41_20 (seqQ (fun e w => W Try.prog 62 V41 c41_19 Q e w) Q) e w) := by rw [(by kernel_rfl : c41_18 = .seq c41_20 c41_19), W_seq]
theorem o41_5_eq : opsW N M G 62 V41 o41_5 k o41_5.toList [] e e w =
    (M (e 6) fun t11 =>
    M (e 0) fun t12 =>
    N (xnil t12) w fun t13 w =>
    N (xv (Instr.fieldAt 62 t13 2)) w fun t14 w =>
    N (xv (Instr.loadAt 60 t14)) w fun t15 w =>
    N (builtin Builtin.len #[60] 3 ([false]).toArray ([t15]).toArray) w fun t16 w =>
    N (xv (xbin BinOp.lss 3 (Operand.tmp 11) (Operand.tmp 16) t11 t16)) w fun t17 w =>
    k (Env.p e 17 t17) w) := nr (by kernel_rfl)
theorem c41_25_v : opV V41 (.tmp 17) = true := by kernel_rfl
theorem c41_25_s (hw : Cur w) : W Try.prog 62 V41 c41_25 Q e w = (condP (ev e (.tmp 17)) (Q .normal e w) (Q (.exit 2) e w)) := by rw [(by kernel_rfl : c41_25 = .cond (.tmp 17) Code.skip (Code.exit 2)), W_cond, c41_25_v, cond_true]; simp only [W_ret, W_skip, W_exit, W_label]
theorem c41_24_s (hw : Cur w) : W Try.prog 62 V41 c41_24 Q e w = (opsW (nx Try.prog) mv gdP 62 V41 o41_5 (fun e w => W Try.prog 62 V41 c41_25 Q e w) o41_5.toList [] e e w) := by rw [(by kernel_rfl : c41_24 = .seq (.region 5 o41_5 false) c41_25), W_seq_reg]
theorem c41_17_s (hw : Cur w) : W Try.prog 62 V41 c41_17 Q e w = (W Try.prog 62 V41 c41_24 (seqQ (fun e w => W Try.prog 62 V41 c41_18 Q e w) Q) e w) := by rw [(by kernel_rfl : c41_17 = .seq c41_24 c41_18), W_seq]
theorem c41_16_s (hw : Cur w) : W Try.prog 62 V41 c41_16 Q e w = (LoopP (fun e w k => W Try.prog 62 V41 c41_17 (seqQ k Q) e w) e w) := by rw [(by kernel_rfl : c41_16 = .loop c41_17), W_loop]
theorem c41_15_s (hw : Cur w) : W Try.prog 62 V41 c41_15 Q e w = (W Try.prog 62 V41 c41_16 (blockQ 2 Q) e w) := by rw [(by kernel_rfl : c41_15 = .block 2 c41_16), W_block]
theorem c41_14_s (hw : Cur w) : W Try.prog 62 V41 c41_14 Q e w = (opsW (nx Try.prog) mv gdP 62 V41 o41_4 (fun e w => W Try.prog 62 V41 c41_15 Q e w) o41_4.toList [] e e w) := by rw [(by kernel_rfl : c41_14 = .seq (.region 4 o41_4 false) c41_15), W_seq_reg]
theorem c41_7_s (hw : Cur w) : W Try.prog 62 V41 c41_7 Q e w = (W Try.prog 62 V41 c41_14 (seqQ (fun e w => W Try.prog 62 V41 c41_8 Q e w) Q) e w) := by rw [(by kernel_rfl : c41_7 = .seq c41_14 c41_8), W_seq]
theorem c41_6_s (hw : Cur w) : W Try.prog 62 V41 c41_6 Q e w = (opsW (nx Try.prog) mv gdP 62 V41 o41_3 (fun e w => W Try.prog 62 V41 c41_7 Q e w) o41_3.toList [] e e w) := by rw [(by kernel_rfl : c41_6 = .seq (.region 3 o41_3 false) c41_7), W_seq_reg]
theorem c41_5_s (hw : Cur w) : W Try.prog 62 V41 c41_5 Q e w = (W Try.prog 62 V41 c41_6 (blockQ 1 Q) e w) := by rw [(by kernel_rfl : c41_5 = .block 1 c41_6), W_block]
theorem c41_4_s (hw : Cur w) : W Try.prog 62 V41 c41_4 Q e w = (LoopP (fun e w k => W Try.prog 62 V41 c41_5 (seqQ k Q) e w) e w) := by rw [(by kernel_rfl : c41_4 = .loop c41_5), W_loop]
theorem c41_3_s (hw : Cur w) : W Try.prog 62 V41 c41_3 Q e w = (W Try.prog 62 V41 c41_4 (blockQ 0 Q) e w) := by rw [(by kernel_rfl : c41_3 = .block 0 c41_4), W_block]
theorem c41_2_s (hw : Cur w) : W Try.prog 62 V41 c41_2 Q e w = (opsW (nx Try.prog) mv gdP 62 V41 o41_2 (fun e w => W Try.prog 62 V41 c41_3 Q e w) o41_2.toList [] e e w) := by rw [(by kernel_rfl : c41_2 = .seq (.region 2 o41_2 false) c41_3), W_seq_reg]
theorem c41_1_s (hw : Cur w) : W Try.prog 62 V41 c41_1 Q e w = (opsW (nx Try.prog) mv gdP 62 V41 o41_1 (fun e w => W Try.prog 62 V41 c41_2 Q e w) o41_1.toList [] e e w) := by rw [(by kernel_rfl : c41_1 = .seq (.region 1 o41_1 false) c41_2), W_seq_reg]
theorem c41_s (hw : Cur w) : W Try.prog 62 V41 c41 Q e w = (opsW (nx Try.prog) mv gdP 62 V41 o41_0 (fun e w => W Try.prog 62 V41 c41_1 Q e w) o41_0.toList [] e e w) := by rw [(by kernel_rfl : c41 = .seq (.region 0 o41_0 false) c41_1), W_seq_reg]
theorem call41 {a0 : Value} {w : World} {R : Value → World → Prop} (h : W Try.prog 62 V41 c41 (retQ Try.prog [.tmp 2] R) (argE [a0]) w) : CallsN Try.prog 41 [a0] w R :=
  callsN_of_W (c := c41) (rs := [.tmp 2]) V41 Try.ntmps41 (by rw [Try.results41]) mixed Try.func41 (by kernel_rfl) (by kernel_rfl) (by kernel_rfl) (by kernel_rfl) (by simp) h
noncomputable def hk41 := And.intro (@o41_0_eq) <| And.intro (@o41_1_eq) <| And.intro (@o41_2_eq) <| And.intro (@o41_3_eq) <| And.intro (@o41_11_eq) <| And.intro (@o41_12_eq) <| And.intro (@c41_10_s) <| And.intro (@c41_9_s) <| And.intro (@o41_9_eq) <| And.intro (@o41_10_eq) <| And.intro (@c41_13_s) <| And.intro (@c41_12_s) <| And.intro (@c41_11_s) <| And.intro (@c41_8_s) <| And.intro (@o41_4_eq) <| And.intro (@o41_6_eq) <| And.intro (@c41_19_s) <| And.intro (@o41_7_eq) <| And.intro (@o41_8_eq) <| And.intro (@c41_23_s) <| And.intro (@c41_22_s) <| And.intro (@c41_21_s) <| And.intro (@c41_20_s) <| And.intro (@c41_18_s) <| And.intro (@o41_5_eq) <| And.intro (@c41_25_s) <| And.intro (@c41_24_s) <| And.intro (@c41_17_s) <| And.intro (@c41_16_s) <| And.intro (@c41_15_s) <| And.intro (@c41_14_s) <| And.intro (@c41_7_s) <| And.intro (@c41_6_s) <| And.intro (@c41_5_s) <| And.intro (@c41_4_s) <| And.intro (@c41_3_s) <| And.intro (@c41_2_s) <| And.intro (@c41_1_s) <| @c41_s
-- K41: ↓hk41
/-! ### vouch/vouchref07.held -/
def V63 : Nat → Bool := fun i => [0, 2, 4, 6].elem i
noncomputable def c63 : Code := (Try.f63.body.getD .skip)
noncomputable def o63_0 : Array Oper := rO (cL c63)
noncomputable def c63_1 : Code := (cR c63)
noncomputable def c63_2 : Code := (cR c63_1)
noncomputable def c63_3 : Code := (cR c63_2)
noncomputable def o63_5 : Array Oper := rO (cL c63_3)
noncomputable def c63_4 : Code := (cL c63_2)
noncomputable def o63_3 : Array Oper := rO (cL c63_4)
noncomputable def c63_5 : Code := (cR c63_4)
noncomputable def c63_6 : Code := (cL c63_5)
noncomputable def o63_4 : Array Oper := rO (cL c63_6)
noncomputable def c63_7 : Code := (cL c63_1)
noncomputable def o63_1 : Array Oper := rO (cL c63_7)
noncomputable def c63_8 : Code := (cR c63_7)
noncomputable def c63_9 : Code := (cL c63_8)
noncomputable def o63_2 : Array Oper := rO (cL c63_9)
theorem o63_0_eq : opsW N M G 8 V63 o63_0 k o63_0.toList [] e e w =
    (M (Value.int IntKind.i64 0) fun t2 =>
    k (Env.p e 2 t2) w) := nr (by kernel_rfl)
theorem o63_5_eq : opsW N M G 8 V63 o63_5 k o63_5.toList [] e e w =
    (M (e 0) fun t7 =>
    M t7 fun t2 =>
    k (Env.p e 2 t2) w) := nr (by kernel_rfl)
theorem c63_3_s (hw : Cur w) : W Try.prog 8 V63 c63_3 Q e w = (opsW (nx Try.prog) mv gdP 8 V63 o63_5 (fun e w => Q .ret e w) o63_5.toList [] e e w) := by rw [(by kernel_rfl : c63_3 = .seq (.region 5 o63_5 false) Code.ret), W_seq_reg]; simp only [W_ret, W_skip, W_exit, W_label]
theorem o63_3_eq : opsW N M G 8 V63 o63_3 k o63_3.toList [] e e w =
    (M (e 0) fun t5 =>
    N (xv (xbin BinOp.gtr 2 (Operand.tmp 5) (Operand.const (Value.int IntKind.i64 1099511627776)) t5 (Value.int IntKind.i64 1099511627776))) w fun t6 w =>
    k (Env.p e 6 t6) w) := nr (by kernel_rfl)
theorem o63_4_eq : opsW N M G 8 V63 o63_4 k o63_4.toList [] e e w =
    (M (Value.int IntKind.i64 1099511627776) fun t2 =>
    k (Env.p e 2 t2) w) := nr (by kernel_rfl)
theorem c63_6_s (hw : Cur w) : W Try.prog 8 V63 c63_6 Q e w = (opsW (nx Try.prog) mv gdP 8 V63 o63_4 (fun e w => Q .ret e w) o63_4.toList [] e e w) := by rw [(by kernel_rfl : c63_6 = .seq (.region 4 o63_4 false) Code.ret), W_seq_reg]; simp only [W_ret, W_skip, W_exit, W_label]
theorem c63_5_v : opV V63 (.tmp 6) = true := by kernel_rfl
theorem c63_5_s (hw : Cur w) : W Try.prog 8 V63 c63_5 Q e w = (condP (ev e (.tmp 6)) (W Try.prog 8 V63 c63_6 Q e w) (Q .normal e w)) := by rw [(by kernel_rfl : c63_5 = .cond (.tmp 6) c63_6 Code.skip), W_cond, c63_5_v, cond_true]; simp only [W_ret, W_skip, W_exit, W_label]
theorem c63_4_s (hw : Cur w) : W Try.prog 8 V63 c63_4 Q e w = (opsW (nx Try.prog) mv gdP 8 V63 o63_3 (fun e w => W Try.prog 8 V63 c63_5 Q e w) o63_3.toList [] e e w) := by rw [(by kernel_rfl : c63_4 = .seq (.region 3 o63_3 false) c63_5), W_seq_reg]
theorem c63_2_s (hw : Cur w) : W Try.prog 8 V63 c63_2 Q e w = (W Try.prog 8 V63 c63_4 (seqQ (fun e w => W Try.prog 8 V63 c63_3 Q e w) Q) e w) := by rw [(by kernel_rfl : c63_2 = .seq c63_4 c63_3), W_seq]
theorem o63_1_eq : opsW N M G 8 V63 o63_1 k o63_1.toList [] e e w =
    (M (e 0) fun t3 =>
    N (xv (xbin BinOp.lss 2 (Operand.tmp 3) (Operand.const (Value.int IntKind.i64 0)) t3 (Value.int IntKind.i64 0))) w fun t4 w =>
    k (Env.p e 4 t4) w) := nr (by kernel_rfl)
theorem o63_2_eq : opsW N M G 8 V63 o63_2 k o63_2.toList [] e e w =
    (M (Value.int IntKind.i64 0) fun t2 =>
    k (Env.p e 2 t2) w) := nr (by kernel_rfl)
theorem c63_9_s (hw : Cur w) : W Try.prog 8 V63 c63_9 Q e w = (opsW (nx Try.prog) mv gdP 8 V63 o63_2 (fun e w => Q .ret e w) o63_2.toList [] e e w) := by rw [(by kernel_rfl : c63_9 = .seq (.region 2 o63_2 false) Code.ret), W_seq_reg]; simp only [W_ret, W_skip, W_exit, W_label]
theorem c63_8_v : opV V63 (.tmp 4) = true := by kernel_rfl
theorem c63_8_s (hw : Cur w) : W Try.prog 8 V63 c63_8 Q e w = (condP (ev e (.tmp 4)) (W Try.prog 8 V63 c63_9 Q e w) (Q .normal e w)) := by rw [(by kernel_rfl : c63_8 = .cond (.tmp 4) c63_9 Code.skip), W_cond, c63_8_v, cond_true]; simp only [W_ret, W_skip, W_exit, W_label]
theorem c63_7_s (hw : Cur w) : W Try.prog 8 V63 c63_7 Q e w = (opsW (nx Try.prog) mv gdP 8 V63 o63_1 (fun e w => W Try.prog 8 V63 c63_8 Q e w) o63_1.toList [] e e w) := by rw [(by kernel_rfl : c63_7 = .seq (.region 1 o63_1 false) c63_8), W_seq_reg]
theorem c63_1_s (hw : Cur w) : W Try.prog 8 V63 c63_1 Q e w = (W Try.prog 8 V63 c63_7 (seqQ (fun e w => W Try.prog 8 V63 c63_2 Q e w) Q) e w) := by rw [(by kernel_rfl : c63_1 = .seq c63_7 c63_2), W_seq]
theorem c63_s (hw : Cur w) : W Try.prog 8 V63 c63 Q e w = (opsW (nx Try.prog) mv gdP 8 V63 o63_0 (fun e w => W Try.prog 8 V63 c63_1 Q e w) o63_0.toList [] e e w) := by rw [(by kernel_rfl : c63 = .seq (.region 0 o63_0 false) c63_1), W_seq_reg]
theorem call63 {a0 : Value} {w : World} {R : Value → World → Prop} (h : W Try.prog 8 V63 c63 (retQ Try.prog [.tmp 2] R) (argE [a0]) w) : CallsN Try.prog 63 [a0] w R :=
  callsN_of_W (c := c63) (rs := [.tmp 2]) V63 Try.ntmps63 (by rw [Try.results63]) mixed Try.func63 (by kernel_rfl) (by kernel_rfl) (by kernel_rfl) (by kernel_rfl) (by simp) h
noncomputable def hk63 := And.intro (@o63_0_eq) <| And.intro (@o63_5_eq) <| And.intro (@c63_3_s) <| And.intro (@o63_3_eq) <| And.intro (@o63_4_eq) <| And.intro (@c63_6_s) <| And.intro (@c63_5_s) <| And.intro (@c63_4_s) <| And.intro (@c63_2_s) <| And.intro (@o63_1_eq) <| And.intro (@o63_2_eq) <| And.intro (@c63_9_s) <| And.intro (@c63_8_s) <| And.intro (@c63_7_s) <| And.intro (@c63_1_s) <| @c63_s
-- K63: ↓hk63
/-! ### (*vouch/vouchref07.Gap) . Clear -/
def V64 : Nat → Bool := fun i => [0, 1].elem i
noncomputable def c64 : Code := (Try.f64.body.getD .skip)
noncomputable def o64_0 : Array Oper := rO (cL c64)
noncomputable def c64_1 : Code := (cR c64)
noncomputable def o64_1 : Array Oper := rO c64_1
theorem o64_0_eq : opsW N M G 12 V64 o64_0 k o64_0.toList [] e e w =
    (M (e 0) fun t4 =>
    M (e 1) fun t5 =>
    N (xcall (Value.func (Fn.func 63) #[] #[]) [t5]) w fun t6 w =>
    N (xnil t4) w fun t7 w =>
    N (xv (Instr.fieldAt 62 t7 0)) w fun t8 w =>
    N (xu (Instr.storeAt 2 t8 t6)) w fun _ w =>
    k e w) := nr (by kernel_rfl)
theorem o64_1_eq : opsW N M G 12 V64 o64_1 k o64_1.toList [] e e w =
    (M (e 0) fun t9 =>
    N (xnil t9) w fun t10 w =>
    N (xv (Instr.fieldAt 62 t10 2)) w fun t11 w =>
    N (xu (Instr.storeAt 60 t11 (Value.slice none 0 0))) w fun _ w =>
    k e w) := nr (by kernel_rfl)
theorem c64_1_s (hw : Cur w) : W Try.prog 12 V64 c64_1 Q e w = (opsW (nx Try.prog) mv gdP 12 V64 o64_1 (fun e w => Q .normal e w) o64_1.toList [] e e w) := by rw [(by kernel_rfl : c64_1 = (.region 1 o64_1 false)), W_reg]
theorem c64_s (hw : Cur w) : W Try.prog 12 V64 c64 Q e w = (opsW (nx Try.prog) mv gdP 12 V64 o64_0 (fun e w => W Try.prog 12 V64 c64_1 Q e w) o64_0.toList [] e e w) := by rw [(by kernel_rfl : c64 = .seq (.region 0 o64_0 false) c64_1), W_seq_reg]
theorem call64 {a0 a1 : Value} {w : World} {R : Value → World → Prop} (h : W Try.prog 12 V64 c64 (retQ Try.prog [] R) (argE [a0, a1]) w) : CallsN Try.prog 64 [a0, a1] w R :=
  callsN_of_W (c := c64) (rs := []) V64 Try.ntmps64 (by rw [Try.results64]) mixed Try.func64 (by kernel_rfl) (by kernel_rfl) (by kernel_rfl) (by kernel_rfl) (by simp) h
noncomputable def hk64 := And.intro (@o64_0_eq) <| And.intro (@o64_1_eq) <| And.intro (@c64_1_s) <| @c64_s
-- K64: ↓hk64
/-! ### (*vouch/vouchref07.Gap) . find -/
def V87 : Nat → Bool := fun i => [0, 1, 4, 5, 12, 24].elem i
noncomputable def c87 : Code := (Try.f87.body.getD .skip)
noncomputable def o87_0 : Array Oper := rO (cL c87)
noncomputable def c87_1 : Code := (cR c87)
noncomputable def c87_2 : Code := (cR c87_1)
noncomputable def o87_6 : Array Oper := rO (cL c87_2)
noncomputable def c87_3 : Code := (cL c87_1)
noncomputable def o87_1 : Array Oper := rO (cL c87_3)
noncomputable def c87_4 : Code := (cR c87_3)
noncomputable def c87_5 : Code := (cL c87_4)
noncomputable def c87_6 : Code := (cL c87_5)
noncomputable def c87_7 : Code := (cR c87_6)
noncomputable def c87_8 : Code := (cR c87_7)
noncomputable def o87_3 : Array Oper := rO c87_8
noncomputable def c87_9 : Code := (cL c87_7)
noncomputable def c87_10 : Code := (cL c87_9)
noncomputable def o87_4 : Array Oper := rO (cL c87_10)
noncomputable def c87_11 : Code := (cR c87_10)
noncomputable def c87_12 : Code := (cL c87_11)
noncomputable def o87_5 : Array Oper := rO (cL c87_12)
noncomputable def c87_13 : Code := (cL c87_6)
noncomputable def o87_2 : Array Oper := rO (cL c87_13)
noncomputable def c87_14 : Code := (cR c87_13)
theorem o87_0_eq : opsW N M G 26 V87 o87_0 k o87_0.toList [] e e w =
    (M (Value.int IntKind.i64 0) fun t4 =>
    k (Env.p e 4 t4) w) := nr (by kernel_rfl)
theorem o87_6_eq : opsW N M G 26 V87 o87_6 k o87_6.toList [] e e w =
    (M (Value.int IntKind.i64 (-1)) fun t4 =>
    k (Env.p e 4 t4) w) := nr (by kernel_rfl)
theorem c87_2_s (hw : Cur w) : W Try.prog 26 V87 c87_2 Q e w = (opsW (nx Try.prog) mv gdP 26 V87 o87_6 (fun e w => Q .ret e w) o87_6.toList [] e e w) := by rw [(by kernel_rfl : c87_2 = .seq (.region 6 o87_6 false) Code.ret), W_seq_reg]; simp only [W_ret, W_skip, W_exit, W_label]
theorem o87_1_eq : opsW N M G 26 V87 o87_1 k o87_1.toList [] e e w =
    (M (Value.int IntKind.i64 0) fun t5 =>
    k (Env.p e 5 t5) w) := nr (by kernel_rfl)
theorem o87_3_eq : opsW N M G 26 V87 o87_3 k o87_3.toList [] e e w =
    (M (e 5) fun t13 =>
    N (xv (xbin BinOp.add 3 (Operand.tmp 13) (Operand.const (Value.int IntKind.i64 1)) t13 (Value.int IntKind.i64 1))) w fun t14 w =>
    M t14 fun t5 =>
    k (Env.p e 5 t5) w) := nr (by kernel_rfl)
theorem c87_8_s (hw : Cur w) : W Try.prog 26 V87 c87_8 Q e w = (opsW (nx Try.prog) mv gdP 26 V87 o87_3 (fun e w => Q .normal e w) o87_3.toList [] e e w) := by rw [(by kernel_rfl : c87_8 = (.region 3 o87_3 false)), W_reg]
theorem o87_4_eq : opsW N M G 26 V87 o87_4 k o87_4.toList [] e e w =
    (M (e 0) fun t15 =>
    N (xnil t15) w fun t16 w =>
    N (xv (Instr.fieldAt 62 t16 2)) w fun t17 w =>
    N (xv (Instr.loadAt 60 t17)) w fun t18 w =>
    M (e 5) fun t19 =>
    N (xv (Instr.indexAt 60 t18 t19)) w fun t20 w =>
    N (xv (Instr.fieldAt 54 t20 0)) w fun t21 w =>
    N (xv (Instr.loadAt 2 t21)) w fun t22 w =>
    M (e 1) fun t23 =>
    N (xv (xbin BinOp.eql 2 (Operand.tmp 22) (Operand.tmp 23) t22 t23)) w fun t24 w =>
    k (Env.p e 24 t24) w) := nr (by kernel_rfl)
theorem o87_5_eq : opsW N M G 26 V87 o87_5 k o87_5.toList [] e e w =
    (M (e 5) fun t25 =>
    M t25 fun t4 =>
    k (Env.p e 4 t4) w) := nr (by kernel_rfl)
theorem c87_12_s (hw : Cur w) : W Try.prog 26 V87 c87_12 Q e w = (opsW (nx Try.prog) mv gdP 26 V87 o87_5 (fun e w => Q .ret e w) o87_5.toList [] e e w) := by rw [(by kernel_rfl : c87_12 = .seq (.region 5 o87_5 false) Code.ret), W_seq_reg]; simp only [W_ret, W_skip, W_exit, W_label]
theorem c87_11_v : opV V87 (.tmp 24) = true := by kernel_rfl
theorem c87_11_s (hw : Cur w) : W Try.prog 26 V87 c87_11 Q e w = (condP (ev e (.tmp 24)) (W Try.prog 26 V87 c87_12 Q e w) (Q .normal e w)) := by rw [(by kernel_rfl : c87_11 = .cond (.tmp 24) c87_12 Code.skip), W_cond, c87_11_v, cond_true]; simp only [W_ret, W_skip, W_exit, W_label]
theorem c87_10_s (hw : Cur w) : W Try.prog 26 V87 c87_10 Q e w = (opsW (nx Try.prog) mv gdP 26 V87 o87_4 (fun e w => W Try.prog 26 V87 c87_11 Q e w) o87_4.toList [] e e w) := by rw [(by kernel_rfl : c87_10 = .seq (.region 4 o87_4 false) c87_11), W_seq_reg]
theorem c87_9_s (hw : Cur w) : W Try.prog 26 V87 c87_9 Q e w = (W Try.prog 26 V87 c87_10 (blockQ 1 Q) e w) := by rw [(by kernel_rfl : c87_9 = .block 1 c87_10), W_block]
theorem c87_7_s (hw : Cur w) : W Try.prog 26 V87 c87_7 Q e w = (W Try.prog 26 V87 c87_9 (seqQ (fun e w => W Try.prog 26 V87 c87_8 Q e w) Q) e w) := by rw [(by kernel_rfl : c87_7 = .seq c87_9 c87_8), W_seq]
theorem o87_2_eq : opsW N M G 26 V87 o87_2 k o87_2.toList [] e e w =
    (M (e 5) fun t6 =>
    M (e 0) fun t7 =>
    N (xnil t7) w fun t8 w =>
    N (xv (Instr.fieldAt 62 t8 2)) w fun t9 w =>
    N (xv (Instr.loadAt 60 t9)) w fun t10 w =>
    N (builtin Builtin.len #[60] 3 ([false]).toArray ([t10]).toArray) w fun t11 w =>
    N (xv (xbin BinOp.lss 3 (Operand.tmp 6) (Operand.tmp 11) t6 t11)) w fun t12 w =>
    k (Env.p e 12 t12) w) := nr (by kernel_rfl)
theorem c87_14_v : opV V87 (.tmp 12) = true := by kernel_rfl
theorem c87_14_s (hw : Cur w) : W Try.prog 26 V87 c87_14 Q e w = (condP (ev e (.tmp 12)) (Q .normal e w) (Q (.exit 0) e w)) := by rw [(by kernel_rfl : c87_14 = .cond (.tmp 12) Code.skip (Code.exit 0)), W_cond, c87_14_v, cond_true]; simp only [W_ret, W_skip, W_exit, W_label]
theorem c87_13_s (hw : Cur w) : W Try.prog 26 V87 c87_13 Q e w = (opsW (nx Try.prog) mv gdP 26 V87 o87_2 (fun e w => W Try.prog 26 V87 c87_14 Q e w) o87_2.toList [] e e w) := by rw [(by kernel_rfl : c87_13 = .seq (.region 2 o87_2 false) c87_14), W_seq_reg]
theorem c87_6_s (hw : Cur w) : W Try.prog 26 V87 c87_6 Q e w = (W Try.prog 26 V87 c87_13 (seqQ (fun e w => W Try.prog 26 V87 c87_7 Q e w) Q) e w) := by rw [(by kernel_rfl : c87_6 = .seq c87_13 c87_7), W_seq]
theorem c87_5_s (hw : Cur w) : W Try.prog 26 V87 c87_5 Q e w = (LoopP (fun e w k => W Try.prog 26 V87 c87_6 (seqQ k Q) e w) e w) := by rw [(by kernel_rfl : c87_5 = .loop c87_6), W_loop]
theorem c87_4_s (hw : Cur w) : W Try.prog 26 V87 c87_4 Q e w = (W Try.prog 26 V87 c87_5 (blockQ 0 Q) e w) := by rw [(by kernel_rfl : c87_4 = .block 0 c87_5), W_block]
theorem c87_3_s (hw : Cur w) : W Try.prog 26 V87 c87_3 Q e w = (opsW (nx Try.prog) mv gdP 26 V87 o87_1 (fun e w => W Try.prog 26 V87 c87_4 Q e w) o87_1.toList [] e e w) := by rw [(by kernel_rfl : c87_3 = .seq (.region 1 o87_1 false) c87_4), W_seq_reg]
theorem c87_1_s (hw : Cur w) : W Try.prog 26 V87 c87_1 Q e w = (W Try.prog 26 V87 c87_3 (seqQ (fun e w => W Try.prog 26 V87 c87_2 Q e w) Q) e w) := by rw [(by kernel_rfl : c87_1 = .seq c87_3 c87_2), W_seq]
theorem c87_s (hw : Cur w) : W Try.prog 26 V87 c87 Q e w = (opsW (nx Try.prog) mv gdP 26 V87 o87_0 (fun e w => W Try.prog 26 V87 c87_1 Q e w) o87_0.toList [] e e w) := by rw [(by kernel_rfl : c87 = .seq (.region 0 o87_0 false) c87_1), W_seq_reg]
theorem call87 {a0 a1 : Value} {w : World} {R : Value → World → Prop} (h : W Try.prog 26 V87 c87 (retQ Try.prog [.tmp 4] R) (argE [a0, a1]) w) : CallsN Try.prog 87 [a0, a1] w R :=
  callsN_of_W (c := c87) (rs := [.tmp 4]) V87 Try.ntmps87 (by rw [Try.results87]) mixed Try.func87 (by kernel_rfl) (by kernel_rfl) (by kernel_rfl) (by kernel_rfl) (by simp) h
noncomputable def hk87 := And.intro (@o87_0_eq) <| And.intro (@o87_6_eq) <| And.intro (@c87_2_s) <| And.intro (@o87_1_eq) <| And.intro (@o87_3_eq) <| And.intro (@c87_8_s) <| And.intro (@o87_4_eq) <| And.intro (@o87_5_eq) <| And.intro (@c87_12_s) <| And.intro (@c87_11_s) <| And.intro (@c87_10_s) <| And.intro (@c87_9_s) <| And.intro (@c87_7_s) <| And.intro (@o87_2_eq) <| And.intro (@c87_14_s) <| And.intro (@c87_13_s) <| And.intro (@c87_6_s) <| And.intro (@c87_5_s) <| And.intro (@c87_4_s) <| And.intro (@c87_3_s) <| And.intro (@c87_1_s) <| @c87_s
-- K87: ↓hk87
end
end Go.Proofs.Ytenokheiindfkaa
