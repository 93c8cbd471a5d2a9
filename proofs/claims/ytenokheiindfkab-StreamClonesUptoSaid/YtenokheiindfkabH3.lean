/- The equations of the code of some functions, written by the printer gen.py: each is checked by the kernel. -/
import Derived.Test.YtenokheiindfkabQ0
set_option linter.unusedVariables false
set_option linter.unusedSimpArgs false
set_option maxRecDepth 100000
namespace Go.Proofs.Ytenokheiindfkab
open Go.VW
noncomputable section
set_option linter.defProp false
variable {N : Sem Next → World → (Value → World → Prop) → Prop} {T : Sem Next → (Value → Prop) → Prop} {M : Value → (Value → Prop) → Prop} {G : Bool → ((Value → World → Prop) → Prop) → (Value → World → Prop) → World → Prop}
  {H : Bool → ((Value → Prop) → Prop) → (Value → Prop) → Prop} {S : World → Prop} {k : Env → World → Prop} {Q : Exit → Env → World → Prop} {e : Env} {w : World}
  {T2 : Nat → Sem Next → (Value → Prop) → Prop} {S2 : Nat → World → Prop}
/-! ### vouch/vouchlaw06.fixed -/
def V8 : Nat → Bool := fun i => [0, 1, 2, 3, 4, 5, 6, 7, 8, 9, 12].elem i
noncomputable def c8 : Code := (Try.f8.body.getD .skip)
noncomputable def o8_0 : Array Oper := rO (cL c8)
noncomputable def c8_1 : Code := (cR c8)
noncomputable def o8_1 : Array Oper := rO (cL c8_1)
noncomputable def c8_2 : Code := (cR c8_1)
noncomputable def c8_3 : Code := (cR c8_2)
noncomputable def o8_4 : Array Oper := rO (cL c8_3)
noncomputable def c8_4 : Code := (cR c8_3)
noncomputable def o8_5 : Array Oper := rO (cL c8_4)
noncomputable def c8_5 : Code := (cR c8_4)
noncomputable def o8_6 : Array Oper := rO (cL c8_5)
noncomputable def c8_6 : Code := (cR c8_5)
noncomputable def o8_7 : Array Oper := rO (cL c8_6)
noncomputable def c8_7 : Code := (cR c8_6)
noncomputable def o8_8 : Array Oper := rO (cL c8_7)
noncomputable def c8_8 : Code := (cL c8_2)
noncomputable def o8_2 : Array Oper := rO (cL c8_8)
noncomputable def c8_9 : Code := (cR c8_8)
noncomputable def c8_10 : Code := (cL c8_9)
noncomputable def o8_3 : Array Oper := rO (cL c8_10)
theorem o8_0_eq : opsW N M G 78 V8 o8_0 k o8_0.toList [] e e w =
    (M (Value.bool false) fun t0 =>
    k (Env.p e 0 t0) w) := nr (by kernel_rfl)
theorem o8_1_eq : opsW N M G 78 V8 o8_1 k o8_1.toList [] e e w =
    (N (xcall (Value.func (Fn.func 9) #[] #[]) []) w fun t10 w =>
    M t10 fun t1 =>
    k (Env.p e 1 t1) w) := nr (by kernel_rfl)
theorem o8_4_eq : opsW N M G 78 V8 o8_4 k o8_4.toList [] e e w =
    (M (e 1) fun t14 =>
    N (xv (Instr.buildSlice 30 2 ([(0, (Value.string ⟨#[97]⟩)), (1, (Value.string ⟨#[98]⟩))]).toArray)) w fun t15 w =>
    N (xcall (Value.func (Fn.func 10) #[] #[]) [t14, t15]) w fun t16 w =>
    M t16 fun t13 =>
    N (xv (Instr.extract t13 0)) w fun t17 w =>
    N (xv (Instr.extract t13 1)) w fun t18 w =>
    M t17 fun t2 =>
    M t18 fun t3 =>
    k (Env.p (Env.p e 2 t2) 3 t3) w) := nr (by kernel_rfl)
theorem o8_5_eq : opsW N M G 78 V8 o8_5 k o8_5.toList [] e e w =
    (M (e 1) fun t20 =>
    N (xv (Instr.buildSlice 30 1 ([(0, (Value.string ⟨#[98]⟩))]).toArray)) w fun t21 w =>
    N (xcall (Value.func (Fn.func 10) #[] #[]) [t20, t21]) w fun t22 w =>
    M t22 fun t19 =>
    N (xv (Instr.extract t19 0)) w fun t23 w =>
    N (xv (Instr.extract t19 1)) w fun t24 w =>
    M t23 fun t4 =>
    M t24 fun t5 =>
    k (Env.p (Env.p e 4 t4) 5 t5) w) := nr (by kernel_rfl)
theorem o8_6_eq : opsW N M G 78 V8 o8_6 k o8_6.toList [] e e w =
    (M (e 1) fun t26 =>
    N (xcall (Value.func (Fn.func 11) #[] #[]) [t26, (Value.string ⟨#[98]⟩), (Value.int IntKind.i64 1)]) w fun t27 w =>
    M t27 fun t25 =>
    N (xv (Instr.extract t25 0)) w fun t28 w =>
    N (xv (Instr.extract t25 1)) w fun t29 w =>
    M t28 fun t6 =>
    M t29 fun t7 =>
    k (Env.p (Env.p e 6 t6) 7 t7) w) := nr (by kernel_rfl)
theorem o8_7_eq : opsW N M G 78 V8 o8_7 k o8_7.toList [] e e w =
    (M (e 1) fun t31 =>
    N (xcall (Value.func (Fn.func 15) #[] #[]) [t31, (Value.int IntKind.i64 1)]) w fun t32 w =>
    M t32 fun t30 =>
    N (xv (Instr.extract t30 0)) w fun t33 w =>
    N (xv (Instr.extract t30 1)) w fun t34 w =>
    N (xv (Instr.alloc 47 true (.tuple #[]))) w fun t8 w =>
    N (xu (Instr.storeAt 47 t8 t33)) w fun _ w =>
    M t34 fun t9 =>
    k (Env.p (Env.p e 8 t8) 9 t9) w) := nr (by kernel_rfl)
theorem o8_8_eq : opsW N M G 78 V8 o8_8 k o8_8.toList [] e e w =
    (M (e 2) fun t35 =>
    N (xv (xbin BinOp.eql 2 (Operand.tmp 35) (Operand.const (Value.int IntKind.i64 1)) t35 (Value.int IntKind.i64 1))) w fun t36 w =>
    M t36 fun t37 =>
    G (isB t37 true) (fun K => M (e 3) fun v => K v w) (fun t38 w =>
    G (isB t37 true) (fun K => N (xv (xbin BinOp.eql 27 (Operand.tmp 38) (Operand.const (Value.int IntKind.i64 0)) t38 (Value.int IntKind.i64 0))) w K) (fun t39 w =>
    N (xpick t37 t39 (Value.bool false)) w fun t40 w =>
    M t40 fun t41 =>
    G (isB t41 true) (fun K => M (e 4) fun v => K v w) (fun t42 w =>
    G (isB t41 true) (fun K => N (xv (xbin BinOp.eql 2 (Operand.tmp 42) (Operand.const (Value.int IntKind.i64 2)) t42 (Value.int IntKind.i64 2))) w K) (fun t43 w =>
    N (xpick t41 t43 (Value.bool false)) w fun t44 w =>
    M t44 fun t45 =>
    G (isB t45 true) (fun K => M (e 5) fun v => K v w) (fun t46 w =>
    G (isB t45 true) (fun K => N (xv (xbin BinOp.eql 27 (Operand.tmp 46) (Operand.const (Value.int IntKind.i64 0)) t46 (Value.int IntKind.i64 0))) w K) (fun t47 w =>
    N (xpick t45 t47 (Value.bool false)) w fun t48 w =>
    M t48 fun t49 =>
    G (isB t49 true) (fun K => M (e 6) fun v => K v w) (fun t50 w =>
    G (isB t49 true) (fun K => N (xv (xbin BinOp.eql 2 (Operand.tmp 50) (Operand.const (Value.int IntKind.i64 2)) t50 (Value.int IntKind.i64 2))) w K) (fun t51 w =>
    N (xpick t49 t51 (Value.bool false)) w fun t52 w =>
    M t52 fun t53 =>
    G (isB t53 true) (fun K => M (e 7) fun v => K v w) (fun t54 w =>
    N (xpick t53 t54 (Value.bool false)) w fun t55 w =>
    M t55 fun t56 =>
    G (isB t56 true) (fun K => M (e 9) fun v => K v w) (fun t57 w =>
    G (isB t56 true) (fun K => N (xv (xbin BinOp.eql 27 (Operand.tmp 57) (Operand.const (Value.int IntKind.i64 0)) t57 (Value.int IntKind.i64 0))) w K) (fun t58 w =>
    N (xpick t56 t58 (Value.bool false)) w fun t59 w =>
    M t59 fun t60 =>
    G (isB t60 true) (fun K => N (xv (Instr.fieldAt 47 (e 8) 1)) w K) (fun t61 w =>
    G (isB t60 true) (fun K => N (xv (Instr.loadAt 30 t61)) w K) (fun t62 w =>
    G (isB t60 true) (fun K => N (builtin Builtin.len #[30] 3 ([false]).toArray ([t62]).toArray) w K) (fun t63 w =>
    G (isB t60 true) (fun K => N (xv (xbin BinOp.eql 3 (Operand.tmp 63) (Operand.const (Value.int IntKind.i64 2)) t63 (Value.int IntKind.i64 2))) w K) (fun t64 w =>
    N (xpick t60 t64 (Value.bool false)) w fun t65 w =>
    M t65 fun t66 =>
    G (isB t66 true) (fun K => N (xv (Instr.fieldAt 47 (e 8) 1)) w K) (fun t67 w =>
    G (isB t66 true) (fun K => N (xv (Instr.loadAt 30 t67)) w K) (fun t68 w =>
    G (isB t66 true) (fun K => N (xv (Instr.indexAt 30 t68 (Value.int IntKind.i64 1))) w K) (fun t69 w =>
    G (isB t66 true) (fun K => N (xv (Instr.loadAt 9 t69)) w K) (fun t70 w =>
    G (isB t66 true) (fun K => N (xv (xbin BinOp.eql 9 (Operand.tmp 70) (Operand.const (Value.string ⟨#[98]⟩)) t70 (Value.string ⟨#[98]⟩))) w K) (fun t71 w =>
    N (xpick t66 t71 (Value.bool false)) w fun t72 w =>
    M t72 fun t73 =>
    G (isB t73 true) (fun K => M (e 1) fun v => K v w) (fun t74 w =>
    G (isB t73 true) (fun K => N (xcall (Value.func (Fn.func 13) #[] #[]) [t74]) w K) (fun t75 w =>
    G (isB t73 true) (fun K => N (xv (xbin BinOp.eql 2 (Operand.tmp 75) (Operand.const (Value.int IntKind.i64 2)) t75 (Value.int IntKind.i64 2))) w K) (fun t76 w =>
    N (xpick t73 t76 (Value.bool false)) w fun t77 w =>
    M t77 fun t0 =>
    k (Env.p e 0 t0) w) w) w) w) w) w) w) w) w) w) w) w) w) w) w) w) w) w) w) w) w) w) w) w) := nr (by kernel_rfl)
theorem c8_7_s (hw : Cur w) : W Try.prog 78 V8 c8_7 Q e w = (opsW (nx Try.prog) mv gdP 78 V8 o8_8 (fun e w => Q .ret e w) o8_8.toList [] e e w) := by rw [(by kernel_rfl : c8_7 = .seq (.region 8 o8_8 false) Code.ret), W_seq_reg]; simp only [W_ret, W_skip, W_exit, W_label]
theorem c8_6_s (hw : Cur w) : W Try.prog 78 V8 c8_6 Q e w = (opsW (nx Try.prog) mv gdP 78 V8 o8_7 (fun e w => W Try.prog 78 V8 c8_7 Q e w) o8_7.toList [] e e w) := by rw [(by kernel_rfl : c8_6 = .seq (.region 7 o8_7 false) c8_7), W_seq_reg]
theorem c8_5_s (hw : Cur w) : W Try.prog 78 V8 c8_5 Q e w = (opsW (nx Try.prog) mv gdP 78 V8 o8_6 (fun e w => W Try.prog 78 V8 c8_6 Q e w) o8_6.toList [] e e w) := by rw [(by kernel_rfl : c8_5 = .seq (.region 6 o8_6 false) c8_6), W_seq_reg]
theorem c8_4_s (hw : Cur w) : W Try.prog 78 V8 c8_4 Q e w = (opsW (nx Try.prog) mv gdP 78 V8 o8_5 (fun e w => W Try.prog 78 V8 c8_5 Q e w) o8_5.toList [] e e w) := by rw [(by kernel_rfl : c8_4 = .seq (.region 5 o8_5 false) c8_5), W_seq_reg]
theorem c8_3_s (hw : Cur w) : W Try.prog 78 V8 c8_3 Q e w = (opsW (nx Try.prog) mv gdP 78 V8 o8_4 (fun e w => W Try.prog 78 V8 c8_4 Q e w) o8_4.toList [] e e w) := by rw [(by kernel_rfl : c8_3 = .seq (.region 4 o8_4 false) c8_4), W_seq_reg]
theorem o8_2_eq : opsW N M G 78 V8 o8_2 k o8_2.toList [] e e w =
    (M (e 1) fun t11 =>
    N (xv (xbin BinOp.eql 24 (Operand.tmp 11) (Operand.const (Value.pointer none)) t11 (Value.pointer none))) w fun t12 w =>
    k (Env.p e 12 t12) w) := nr (by kernel_rfl)
theorem o8_3_eq : opsW N M G 78 V8 o8_3 k o8_3.toList [] e e w =
    (M (Value.bool false) fun t0 =>
    k (Env.p e 0 t0) w) := nr (by kernel_rfl)
theorem c8_10_s (hw : Cur w) : W Try.prog 78 V8 c8_10 Q e w = (opsW (nx Try.prog) mv gdP 78 V8 o8_3 (fun e w => Q .ret e w) o8_3.toList [] e e w) := by rw [(by kernel_rfl : c8_10 = .seq (.region 3 o8_3 false) Code.ret), W_seq_reg]; simp only [W_ret, W_skip, W_exit, W_label]
theorem c8_9_v : opV V8 (.tmp 12) = true := by kernel_rfl
theorem c8_9_s (hw : Cur w) : W Try.prog 78 V8 c8_9 Q e w = (condP (ev e (.tmp 12)) (W Try.prog 78 V8 c8_10 Q e w) (Q .normal e w)) := by rw [(by kernel_rfl : c8_9 = .cond (.tmp 12) c8_10 Code.skip), W_cond, c8_9_v, cond_true]; simp only [W_ret, W_skip, W_exit, W_label]
theorem c8_8_s (hw : Cur w) : W Try.prog 78 V8 c8_8 Q e w = (opsW (nx Try.prog) mv gdP 78 V8 o8_2 (fun e w => W Try.prog 78 V8 c8_9 Q e w) o8_2.toList [] e e w) := by rw [(by kernel_rfl : c8_8 = .seq (.region 2 o8_2 false) c8_9), W_seq_reg]
theorem c8_2_s (hw : Cur w) : W Try.prog 78 V8 c8_2 Q e w = (W Try.prog 78 V8 c8_8 (seqQ (fun e w => W Try.prog 78 V8 c8_3 Q e w) Q) e w) := by rw [(by kernel_rfl : c8_2 = .seq c8_8 c8_3), W_seq]
theorem c8_1_s (hw : Cur w) : W Try.prog 78 V8 c8_1 Q e w = (opsW (nx Try.prog) mv gdP 78 V8 o8_1 (fun e w => W Try.prog 78 V8 c8_2 Q e w) o8_1.toList [] e e w) := by rw [(by kernel_rfl : c8_1 = .seq (.region 1 o8_1 false) c8_2), W_seq_reg]
theorem c8_s (hw : Cur w) : W Try.prog 78 V8 c8 Q e w = (opsW (nx Try.prog) mv gdP 78 V8 o8_0 (fun e w => W Try.prog 78 V8 c8_1 Q e w) o8_0.toList [] e e w) := by rw [(by kernel_rfl : c8 = .seq (.region 0 o8_0 false) c8_1), W_seq_reg]
theorem call8 {w : World} {R : Value → World → Prop} (h : W Try.prog 78 V8 c8 (retQ Try.prog [.tmp 0] R) (argE []) w) : CallsN Try.prog 8 [] w R :=
  callsN_of_W (c := c8) (rs := [.tmp 0]) V8 Try.ntmps8 (by rw [Try.results8]) mixed Try.func8 (by kernel_rfl) (by kernel_rfl) (by kernel_rfl) (by kernel_rfl) (by simp) h
noncomputable def hk8 := And.intro (@o8_0_eq) <| And.intro (@o8_1_eq) <| And.intro (@o8_4_eq) <| And.intro (@o8_5_eq) <| And.intro (@o8_6_eq) <| And.intro (@o8_7_eq) <| And.intro (@o8_8_eq) <| And.intro (@c8_7_s) <| And.intro (@c8_6_s) <| And.intro (@c8_5_s) <| And.intro (@c8_4_s) <| And.intro (@c8_3_s) <| And.intro (@o8_2_eq) <| And.intro (@o8_3_eq) <| And.intro (@c8_10_s) <| And.intro (@c8_9_s) <| And.intro (@c8_8_s) <| And.intro (@c8_2_s) <| And.intro (@c8_1_s) <| @c8_s
-- K8: ↓hk8
/-! ### vouch/vouchlaw06.StreamFirst -/
def V3 : Nat → Bool := fun i => [0, 1, 4, 5, 6, 7, 8, 9, 10, 11, 12, 13, 14, 15, 16, 18, 23, 36, 43, 54, 62, 81].elem i
noncomputable def c3 : Code := (Try.f3.body.getD .skip)
noncomputable def o3_0 : Array Oper := rO (cL c3)
noncomputable def c3_1 : Code := (cR c3)
noncomputable def c3_2 : Code := (cR c3_1)
noncomputable def o3_3 : Array Oper := rO (cL c3_2)
noncomputable def c3_3 : Code := (cR c3_2)
noncomputable def o3_4 : Array Oper := rO (cL c3_3)
noncomputable def c3_4 : Code := (cR c3_3)
noncomputable def c3_5 : Code := (cR c3_4)
noncomputable def o3_15 : Array Oper := rO (cL c3_5)
noncomputable def c3_6 : Code := (cR c3_5)
noncomputable def c3_7 : Code := (cR c3_6)
noncomputable def o3_23 : Array Oper := rO (cL c3_7)
noncomputable def c3_8 : Code := (cR c3_7)
noncomputable def o3_24 : Array Oper := rO (cL c3_8)
noncomputable def c3_9 : Code := (cL c3_6)
noncomputable def o3_16 : Array Oper := rO (cL c3_9)
noncomputable def c3_10 : Code := (cR c3_9)
noncomputable def c3_11 : Code := (cL c3_10)
noncomputable def c3_12 : Code := (cL c3_11)
noncomputable def c3_13 : Code := (cR c3_12)
noncomputable def c3_14 : Code := (cR c3_13)
noncomputable def o3_18 : Array Oper := rO c3_14
noncomputable def c3_15 : Code := (cL c3_13)
noncomputable def c3_16 : Code := (cL c3_15)
noncomputable def o3_19 : Array Oper := rO (cL c3_16)
noncomputable def c3_17 : Code := (cR c3_16)
noncomputable def c3_18 : Code := (cR c3_17)
noncomputable def o3_22 : Array Oper := rO c3_18
noncomputable def c3_19 : Code := (cL c3_17)
noncomputable def o3_20 : Array Oper := rO (cL c3_19)
noncomputable def c3_20 : Code := (cR c3_19)
noncomputable def c3_21 : Code := (cL c3_20)
noncomputable def o3_21 : Array Oper := rO (cL c3_21)
noncomputable def c3_22 : Code := (cL c3_12)
noncomputable def o3_17 : Array Oper := rO (cL c3_22)
noncomputable def c3_23 : Code := (cR c3_22)
noncomputable def c3_24 : Code := (cL c3_4)
noncomputable def o3_5 : Array Oper := rO (cL c3_24)
noncomputable def c3_25 : Code := (cR c3_24)
noncomputable def c3_26 : Code := (cL c3_25)
noncomputable def c3_27 : Code := (cL c3_26)
noncomputable def c3_28 : Code := (cR c3_27)
noncomputable def c3_29 : Code := (cR c3_28)
noncomputable def o3_7 : Array Oper := rO c3_29
noncomputable def c3_30 : Code := (cL c3_28)
noncomputable def c3_31 : Code := (cL c3_30)
noncomputable def o3_8 : Array Oper := rO (cL c3_31)
noncomputable def c3_32 : Code := (cR c3_31)
noncomputable def c3_33 : Code := (cR c3_32)
noncomputable def o3_10 : Array Oper := rO (cL c3_33)
noncomputable def c3_34 : Code := (cR c3_33)
noncomputable def c3_35 : Code := (cL c3_34)
noncomputable def c3_36 : Code := (cL c3_35)
noncomputable def c3_37 : Code := (cR c3_36)
noncomputable def c3_38 : Code := (cR c3_37)
noncomputable def o3_12 : Array Oper := rO c3_38
noncomputable def c3_39 : Code := (cL c3_37)
noncomputable def c3_40 : Code := (cL c3_39)
noncomputable def o3_13 : Array Oper := rO (cL c3_40)
noncomputable def c3_41 : Code := (cR c3_40)
noncomputable def c3_42 : Code := (cL c3_41)
noncomputable def o3_14 : Array Oper := rO c3_42
noncomputable def c3_43 : Code := (cL c3_36)
noncomputable def o3_11 : Array Oper := rO (cL c3_43)
noncomputable def c3_44 : Code := (cR c3_43)
noncomputable def c3_45 : Code := (cL c3_32)
noncomputable def o3_9 : Array Oper := rO (cL c3_45)
noncomputable def c3_46 : Code := (cR c3_45)
noncomputable def c3_47 : Code := (cL c3_27)
noncomputable def o3_6 : Array Oper := rO (cL c3_47)
noncomputable def c3_48 : Code := (cR c3_47)
noncomputable def c3_49 : Code := (cL c3_1)
noncomputable def o3_1 : Array Oper := rO (cL c3_49)
noncomputable def c3_50 : Code := (cR c3_49)
noncomputable def c3_51 : Code := (cL c3_50)
noncomputable def o3_2 : Array Oper := rO (cL c3_51)
theorem o3_0_eq : opsW N M G 96 V3 o3_0 k o3_0.toList [] e e w =
    (M (Value.bool false) fun t4 =>
    k (Env.p e 4 t4) w) := nr (by kernel_rfl)
theorem o3_3_eq : opsW N M G 96 V3 o3_3 k o3_3.toList [] e e w =
    (N (xcall (Value.func (Fn.func 9) #[] #[]) []) w fun t19 w =>
    M t19 fun t5 =>
    k (Env.p e 5 t5) w) := nr (by kernel_rfl)
theorem o3_4_eq : opsW N M G 96 V3 o3_4 k o3_4.toList [] e e w =
    (M (Value.slice none 0 0) fun t6 =>
    k (Env.p e 6 t6) w) := nr (by kernel_rfl)
theorem o3_15_eq : opsW N M G 96 V3 o3_15 k o3_15.toList [] e e w =
    (M (Value.int IntKind.i64 (-7)) fun t11 =>
    k (Env.p e 11 t11) w) := nr (by kernel_rfl)
theorem o3_23_eq : opsW N M G 96 V3 o3_23 k o3_23.toList [] e e w =
    (M (e 5) fun t84 =>
    M (e 1) fun t85 =>
    M (e 11) fun t86 =>
    N (xcall (Value.func (Fn.func 11) #[] #[]) [t84, t85, t86]) w fun t87 w =>
    M t87 fun t83 =>
    N (xv (Instr.extract t83 0)) w fun t88 w =>
    N (xv (Instr.extract t83 1)) w fun t89 w =>
    M t88 fun t15 =>
    M t89 fun t16 =>
    k (Env.p (Env.p e 15 t15) 16 t16) w) := nr (by kernel_rfl)
theorem o3_24_eq : opsW N M G 96 V3 o3_24 k o3_24.toList [] e e w =
    (M (e 15) fun t90 =>
    N (xv (xbin BinOp.eql 2 (Operand.tmp 90) (Operand.const (Value.int IntKind.i64 0)) t90 (Value.int IntKind.i64 0))) w fun t91 w =>
    M t91 fun t92 =>
    G (isB t92 true) (fun K => M (e 16) fun v => K v w) (fun t93 w =>
    G (isB t92 true) (fun K => N (xv (Op.unary UnOp.not t93)) w K) (fun t94 w =>
    N (xpick t92 t94 (Value.bool false)) w fun t95 w =>
    M t95 fun t4 =>
    k (Env.p e 4 t4) w) w) w) := nr (by kernel_rfl)
theorem c3_8_s (hw : Cur w) : W Try.prog 96 V3 c3_8 Q e w = (opsW (nx Try.prog) mv gdP 96 V3 o3_24 (fun e w => Q .ret e w) o3_24.toList [] e e w) := by rw [(by kernel_rfl : c3_8 = .seq (.region 24 o3_24 false) Code.ret), W_seq_reg]; simp only [W_ret, W_skip, W_exit, W_label]
theorem c3_7_s (hw : Cur w) : W Try.prog 96 V3 c3_7 Q e w = (opsW (nx Try.prog) mv gdP 96 V3 o3_23 (fun e w => W Try.prog 96 V3 c3_8 Q e w) o3_23.toList [] e e w) := by rw [(by kernel_rfl : c3_7 = .seq (.region 23 o3_23 false) c3_8), W_seq_reg]
theorem o3_16_eq : opsW N M G 96 V3 o3_16 k o3_16.toList [] e e w =
    (M (Value.int IntKind.i64 0) fun t12 =>
    k (Env.p e 12 t12) w) := nr (by kernel_rfl)
theorem o3_18_eq : opsW N M G 96 V3 o3_18 k o3_18.toList [] e e w =
    (M (e 12) fun t63 =>
    N (xv (xbin BinOp.add 3 (Operand.tmp 63) (Operand.const (Value.int IntKind.i64 1)) t63 (Value.int IntKind.i64 1))) w fun t64 w =>
    M t64 fun t12 =>
    k (Env.p e 12 t12) w) := nr (by kernel_rfl)
theorem c3_14_s (hw : Cur w) : W Try.prog 96 V3 c3_14 Q e w = (opsW (nx Try.prog) mv gdP 96 V3 o3_18 (fun e w => Q .normal e w) o3_18.toList [] e e w) := by rw [(by kernel_rfl : c3_14 = (.region 18 o3_18 false)), W_reg]
theorem o3_19_eq : opsW N M G 96 V3 o3_19 k o3_19.toList [] e e w =
    (M (e 5) fun t66 =>
    M (e 1) fun t67 =>
    M (e 11) fun t68 =>
    N (xcall (Value.func (Fn.func 11) #[] #[]) [t66, t67, t68]) w fun t69 w =>
    M t69 fun t65 =>
    N (xv (Instr.extract t65 0)) w fun t70 w =>
    N (xv (Instr.extract t65 1)) w fun t71 w =>
    M t70 fun t13 =>
    M t71 fun t14 =>
    k (Env.p (Env.p e 13 t13) 14 t14) w) := nr (by kernel_rfl)
theorem o3_22_eq : opsW N M G 96 V3 o3_22 k o3_22.toList [] e e w =
    (M (e 13) fun t82 =>
    M t82 fun t11 =>
    k (Env.p e 11 t11) w) := nr (by kernel_rfl)
theorem c3_18_s (hw : Cur w) : W Try.prog 96 V3 c3_18 Q e w = (opsW (nx Try.prog) mv gdP 96 V3 o3_22 (fun e w => Q .normal e w) o3_22.toList [] e e w) := by rw [(by kernel_rfl : c3_18 = (.region 22 o3_22 false)), W_reg]
theorem o3_20_eq : opsW N M G 96 V3 o3_20 k o3_20.toList [] e e w =
    (M (e 13) fun t72 =>
    M (e 6) fun t73 =>
    M (e 12) fun t74 =>
    N (xv (Instr.indexAt 26 t73 t74)) w fun t75 w =>
    N (xv (Instr.loadAt 2 t75)) w fun t76 w =>
    N (xv (xbin BinOp.neq 2 (Operand.tmp 72) (Operand.tmp 76) t72 t76)) w fun t77 w =>
    M t77 fun t78 =>
    G (isB t78 false) (fun K => M (e 14) fun v => K v w) (fun t79 w =>
    G (isB t78 false) (fun K => N (xv (Op.unary UnOp.not t79)) w K) (fun t80 w =>
    N (xpick t78 (Value.bool true) t80) w fun t81 w =>
    k (Env.p e 81 t81) w) w) w) := nr (by kernel_rfl)
theorem o3_21_eq : opsW N M G 96 V3 o3_21 k o3_21.toList [] e e w =
    (M (Value.bool false) fun t4 =>
    k (Env.p e 4 t4) w) := nr (by kernel_rfl)
theorem c3_21_s (hw : Cur w) : W Try.prog 96 V3 c3_21 Q e w = (opsW (nx Try.prog) mv gdP 96 V3 o3_21 (fun e w => Q .ret e w) o3_21.toList [] e e w) := by rw [(by kernel_rfl : c3_21 = .seq (.region 21 o3_21 false) Code.ret), W_seq_reg]; simp only [W_ret, W_skip, W_exit, W_label]
theorem c3_20_v : opV V3 (.tmp 81) = true := by kernel_rfl
theorem c3_20_s (hw : Cur w) : W Try.prog 96 V3 c3_20 Q e w = (condP (ev e (.tmp 81)) (W Try.prog 96 V3 c3_21 Q e w) (Q .normal e w)) := by rw [(by kernel_rfl : c3_20 = .cond (.tmp 81) c3_21 Code.skip), W_cond, c3_20_v, cond_true]; simp only [W_ret, W_skip, W_exit, W_label]
theorem c3_19_s (hw : Cur w) : W Try.prog 96 V3 c3_19 Q e w = (opsW (nx Try.prog) mv gdP 96 V3 o3_20 (fun e w => W Try.prog 96 V3 c3_20 Q e w) o3_20.toList [] e e w) := by rw [(by kernel_rfl : c3_19 = .seq (.region 20 o3_20 false) c3_20), W_seq_reg]
theorem c3_17_s (hw : Cur w) : W Try.prog 96 V3 c3_17 Q e w = (W Try.prog 96 V3 c3_19 (seqQ (fun e w => W Try.prog 96 V3 c3_18 Q e w) Q) e w) := by rw [(by kernel_rfl : c3_17 = .seq c3_19 c3_18), W_seq]
theorem c3_16_s (hw : Cur w) : W Try.prog 96 V3 c3_16 Q e w = (opsW (nx Try.prog) mv gdP 96 V3 o3_19 (fun e w => W Try.prog 96 V3 c3_17 Q e w) o3_19.toList [] e e w) := by rw [(by kernel_rfl : c3_16 = .seq (.region 19 o3_19 false) c3_17), W_seq_reg]
theorem c3_15_s (hw : Cur w) : W Try.prog 96 V3 c3_15 Q e w = (W Try.prog 96 V3 c3_16 (blockQ 5 Q) e w) := by rw [(by kernel_rfl : c3_15 = .block 5 c3_16), W_block]
theorem c3_13_s (hw : Cur w) : W Try.prog 96 V3 c3_13 Q e w = (W Try.prog 96 V3 c3_15 (seqQ (fun e w => W Try.prog 96 V3 c3_14 Q e w) Q) e w) := by rw [(by kernel_rfl : c3_13 = .seq c3_15 c3_14), W_seq]
theorem o3_17_eq : opsW N M G 96 V3 o3_17 k o3_17.toList [] e e w =
    (M (e 12) fun t59 =>
    M (e 6) fun t60 =>
    N (builtin Builtin.len #[26] 3 ([false]).toArray ([t60]).toArray) w fun t61 w =>
    N (xv (xbin BinOp.lss 3 (Operand.tmp 59) (Operand.tmp 61) t59 t61)) w fun t62 w =>
    k (Env.p e 62 t62) w) := nr (by kernel_rfl)
theorem c3_23_v : opV V3 (.tmp 62) = true := by kernel_rfl
theorem c3_23_s (hw : Cur w) : W Try.prog 96 V3 c3_23 Q e w = (condP (ev e (.tmp 62)) (Q .normal e w) (Q (.exit 4) e w)) := by rw [(by kernel_rfl : c3_23 = .cond (.tmp 62) Code.skip (Code.exit 4)), W_cond, c3_23_v, cond_true]; simp only [W_ret, W_skip, W_exit, W_label]
theorem c3_22_s (hw : Cur w) : W Try.prog 96 V3 c3_22 Q e w = (opsW (nx Try.prog) mv gdP 96 V3 o3_17 (fun e w => W Try.prog 96 V3 c3_23 Q e w) o3_17.toList [] e e w) := by rw [(by kernel_rfl : c3_22 = .seq (.region 17 o3_17 false) c3_23), W_seq_reg]
theorem c3_12_s (hw : Cur w) : W Try.prog 96 V3 c3_12 Q e w = (W Try.prog 96 V3 c3_22 (seqQ (fun e w => W Try.prog 96 V3 c3_13 Q e w) Q) e w) := by rw [(by kernel_rfl : c3_12 = .seq c3_22 c3_13), W_seq]
theorem c3_11_s (hw : Cur w) : W Try.prog 96 V3 c3_11 Q e w = (LoopP (fun e w k => W Try.prog 96 V3 c3_12 (seqQ k Q) e w) e w) := by rw [(by kernel_rfl : c3_11 = .loop c3_12), W_loop]
theorem c3_10_s (hw : Cur w) : W Try.prog 96 V3 c3_10 Q e w = (W Try.prog 96 V3 c3_11 (blockQ 4 Q) e w) := by rw [(by kernel_rfl : c3_10 = .block 4 c3_11), W_block]
theorem c3_9_s (hw : Cur w) : W Try.prog 96 V3 c3_9 Q e w = (opsW (nx Try.prog) mv gdP 96 V3 o3_16 (fun e w => W Try.prog 96 V3 c3_10 Q e w) o3_16.toList [] e e w) := by rw [(by kernel_rfl : c3_9 = .seq (.region 16 o3_16 false) c3_10), W_seq_reg]
theorem c3_6_s (hw : Cur w) : W Try.prog 96 V3 c3_6 Q e w = (W Try.prog 96 V3 c3_9 (seqQ (fun e w => W Try.prog 96 V3 c3_7 Q e w) Q) e w) := by rw [(by kernel_rfl : c3_6 = .seq c3_9 c3_7), W_seq]
theorem c3_5_s (hw : Cur w) : W Try.prog 96 V3 c3_5 Q e w = (opsW (nx Try.prog) mv gdP 96 V3 o3_15 (fun e w => W Try.prog 96 V3 c3_6 Q e w) o3_15.toList [] e e w) := by rw [(by kernel_rfl : c3_5 = .seq (.region 15 o3_15 false) c3_6), W_seq_reg]
theorem o3_5_eq : opsW N M G 96 V3 o3_5 k o3_5.toList [] e e w =
    (M (Value.int IntKind.i64 0) fun t7 =>
    k (Env.p e 7 t7) w) := nr (by kernel_rfl)
theorem o3_7_eq : opsW N M G 96 V3 o3_7 k o3_7.toList [] e e w =
    (M (e 7) fun t24 =>
    N (xv (xbin BinOp.add 3 (Operand.tmp 24) (Operand.const (Value.int IntKind.i64 1)) t24 (Value.int IntKind.i64 1))) w fun t25 w =>
    M t25 fun t7 =>
    k (Env.p e 7 t7) w) := nr (by kernel_rfl)
theorem c3_29_s (hw : Cur w) : W Try.prog 96 V3 c3_29 Q e w = (opsW (nx Try.prog) mv gdP 96 V3 o3_7 (fun e w => Q .normal e w) o3_7.toList [] e e w) := by rw [(by kernel_rfl : c3_29 = (.region 7 o3_7 false)), W_reg]
theorem o3_8_eq : opsW N M G 96 V3 o3_8 k o3_8.toList [] e e w =
    (M (e 5) fun t27 =>
    M (e 0) fun t28 =>
    M (e 7) fun t29 =>
    N (xv (Instr.indexAt 22 t28 t29)) w fun t30 w =>
    N (xv (Instr.loadAt 30 t30)) w fun t31 w =>
    N (xcall (Value.func (Fn.func 10) #[] #[]) [t27, t31]) w fun t32 w =>
    M t32 fun t26 =>
    N (xv (Instr.extract t26 0)) w fun t33 w =>
    N (xv (Instr.extract t26 1)) w fun t34 w =>
    M t33 fun t8 =>
    M t34 fun t9 =>
    k (Env.p (Env.p e 8 t8) 9 t9) w) := nr (by kernel_rfl)
theorem o3_10_eq : opsW N M G 96 V3 o3_10 k o3_10.toList [] e e w =
    (M (Value.int IntKind.i64 0) fun t10 =>
    k (Env.p e 10 t10) w) := nr (by kernel_rfl)
theorem o3_12_eq : opsW N M G 96 V3 o3_12 k o3_12.toList [] e e w =
    (M (e 10) fun t44 =>
    N (xv (xbin BinOp.add 3 (Operand.tmp 44) (Operand.const (Value.int IntKind.i64 1)) t44 (Value.int IntKind.i64 1))) w fun t45 w =>
    M t45 fun t10 =>
    k (Env.p e 10 t10) w) := nr (by kernel_rfl)
theorem c3_38_s (hw : Cur w) : W Try.prog 96 V3 c3_38 Q e w = (opsW (nx Try.prog) mv gdP 96 V3 o3_12 (fun e w => Q .normal e w) o3_12.toList [] e e w) := by rw [(by kernel_rfl : c3_38 = (.region 12 o3_12 false)), W_reg]
theorem o3_13_eq : opsW N M G 96 V3 o3_13 k o3_13.toList [] e e w =
    (M (e 0) fun t46 =>
    M (e 7) fun t47 =>
    N (xv (Instr.indexAt 22 t46 t47)) w fun t48 w =>
    N (xv (Instr.loadAt 30 t48)) w fun t49 w =>
    M (e 10) fun t50 =>
    N (xv (Instr.indexAt 30 t49 t50)) w fun t51 w =>
    N (xv (Instr.loadAt 9 t51)) w fun t52 w =>
    M (e 1) fun t53 =>
    N (xv (xbin BinOp.eql 9 (Operand.tmp 52) (Operand.tmp 53) t52 t53)) w fun t54 w =>
    k (Env.p e 54 t54) w) := nr (by kernel_rfl)
theorem o3_14_eq : opsW N M G 96 V3 o3_14 k o3_14.toList [] e e w =
    (M (e 6) fun t55 =>
    M (e 8) fun t56 =>
    N (xv (Instr.buildSlice 26 1 ([(0, t56)]).toArray)) w fun t57 w =>
    N (builtin Builtin.append #[26, 26] 26 ([false, false]).toArray ([t55, t57]).toArray) w fun t58 w =>
    M t58 fun t6 =>
    k (Env.p e 6 t6) w) := nr (by kernel_rfl)
theorem c3_42_s (hw : Cur w) : W Try.prog 96 V3 c3_42 Q e w = (opsW (nx Try.prog) mv gdP 96 V3 o3_14 (fun e w => Q .normal e w) o3_14.toList [] e e w) := by rw [(by kernel_rfl : c3_42 = (.region 14 o3_14 false)), W_reg]
theorem c3_41_v : opV V3 (.tmp 54) = true := by kernel_rfl
theorem c3_41_s (hw : Cur w) : W Try.prog 96 V3 c3_41 Q e w = (condP (ev e (.tmp 54)) (W Try.prog 96 V3 c3_42 Q e w) (Q .normal e w)) := by rw [(by kernel_rfl : c3_41 = .cond (.tmp 54) c3_42 Code.skip), W_cond, c3_41_v, cond_true]; simp only [W_ret, W_skip, W_exit, W_label]
theorem c3_40_s (hw : Cur w) : W Try.prog 96 V3 c3_40 Q e w = (opsW (nx Try.prog) mv gdP 96 V3 o3_13 (fun e w => W Try.prog 96 V3 c3_41 Q e w) o3_13.toList [] e e w) := by rw [(by kernel_rfl : c3_40 = .seq (.region 13 o3_13 false) c3_41), W_seq_reg]
theorem c3_39_s (hw : Cur w) : W Try.prog 96 V3 c3_39 Q e w = (W Try.prog 96 V3 c3_40 (blockQ 3 Q) e w) := by rw [(by kernel_rfl : c3_39 = .block 3 c3_40), W_block]
theorem c3_37_s (hw : Cur w) : W Try.prog 96 V3 c3_37 Q e w = (W Try.prog 96 V3 c3_39 (seqQ (fun e w => W Try.prog 96 V3 c3_38 Q e w) Q) e w) := by rw [(by kernel_rfl : c3_37 = .seq c3_39 c3_38), W_seq]
theorem o3_11_eq : opsW N M G 96 V3 o3_11 k o3_11.toList [] e e w =
    (M (e 10) fun t37 =>
    M (e 0) fun t38 =>
    M (e 7) fun t39 =>
    N (xv (Instr.indexAt 22 t38 t39)) w fun t40 w =>
    N (xv (Instr.loadAt 30 t40)) w fun t41 w =>
    N (builtin Builtin.len #[30] 3 ([false]).toArray ([t41]).toArray) w fun t42 w =>
    N (xv (xbin BinOp.lss 3 (Operand.tmp 37) (Operand.tmp 42) t37 t42)) w fun t43 w =>
    k (Env.p e 43 t43) w) := nr (by kernel_rfl)
theorem c3_44_v : opV V3 (.tmp 43) = true := by kernel_rfl
theorem c3_44_s (hw : Cur w) : W Try.prog 96 V3 c3_44 Q e w = (condP (ev e (.tmp 43)) (Q .normal e w) (Q (.exit 2) e w)) := by rw [(by kernel_rfl : c3_44 = .cond (.tmp 43) Code.skip (Code.exit 2)), W_cond, c3_44_v, cond_true]; simp only [W_ret, W_skip, W_exit, W_label]
theorem c3_43_s (hw : Cur w) : W Try.prog 96 V3 c3_43 Q e w = (opsW (nx Try.prog) mv gdP 96 V3 o3_11 (fun e w => W Try.prog 96 V3 c3_44 Q e w) o3_11.toList [] e e w) := by rw [(by kernel_rfl : c3_43 = .seq (.region 11 o3_11 false) c3_44), W_seq_reg]
theorem c3_36_s (hw : Cur w) : W Try.prog 96 V3 c3_36 Q e w = (W Try.prog 96 V3 c3_43 (seqQ (fun e w => W Try.prog 96 V3 c3_37 Q e w) Q) e w) := by rw [(by kernel_rfl : c3_36 = .seq c3_43 c3_37), W_seq]
theorem c3_35_s (hw : Cur w) : W Try.prog 96 V3 c3_35 Q e w = (LoopP (fun e w k => W Try.prog 96 V3 c3_36 (seqQ k Q) e w) e w) := by rw [(by kernel_rfl : c3_35 = .loop c3_36), W_loop]
theorem c3_34_s (hw : Cur w) : W Try.prog 96 V3 c3_34 Q e w = (W Try.prog 96 V3 c3_35 (blockQ 2 Q) e w) := by rw [(by kernel_rfl : c3_34 = .block 2 c3_35), W_block]
theorem c3_33_s (hw : Cur w) : W Try.prog 96 V3 c3_33 Q e w = (opsW (nx Try.prog) mv gdP 96 V3 o3_10 (fun e w => W Try.prog 96 V3 c3_34 Q e w) o3_10.toList [] e e w) := by rw [(by kernel_rfl : c3_33 = .seq (.region 10 o3_10 false) c3_34), W_seq_reg]
theorem o3_9_eq : opsW N M G 96 V3 o3_9 k o3_9.toList [] e e w =
    (M (e 9) fun t35 =>
    N (xv (xbin BinOp.neq 27 (Operand.tmp 35) (Operand.const (Value.int IntKind.i64 0)) t35 (Value.int IntKind.i64 0))) w fun t36 w =>
    k (Env.p e 36 t36) w) := nr (by kernel_rfl)
theorem c3_46_v : opV V3 (.tmp 36) = true := by kernel_rfl
theorem c3_46_s (hw : Cur w) : W Try.prog 96 V3 c3_46 Q e w = (condP (ev e (.tmp 36)) (Q (.exit 1) e w) (Q .normal e w)) := by rw [(by kernel_rfl : c3_46 = .cond (.tmp 36) (Code.exit 1) Code.skip), W_cond, c3_46_v, cond_true]; simp only [W_ret, W_skip, W_exit, W_label]
theorem c3_45_s (hw : Cur w) : W Try.prog 96 V3 c3_45 Q e w = (opsW (nx Try.prog) mv gdP 96 V3 o3_9 (fun e w => W Try.prog 96 V3 c3_46 Q e w) o3_9.toList [] e e w) := by rw [(by kernel_rfl : c3_45 = .seq (.region 9 o3_9 false) c3_46), W_seq_reg]
theorem c3_32_s (hw : Cur w) : W Try.prog 96 V3 c3_32 Q e w = (W Try.prog 96 V3 c3_45 (seqQ (fun e w => W Try.prog 96 V3 c3_33 Q e w) Q) e w) := by rw [(by kernel_rfl : c3_32 = .seq c3_45 c3_33), W_seq]
theorem c3_31_s (hw : Cur w) : W Try.prog 96 V3 c3_31 Q e w = (opsW (nx Try.prog) mv gdP 96 V3 o3_8 (fun e w => W Try.prog 96 V3 c3_32 Q e w) o3_8.toList [] e e w) := by rw [(by kernel_rfl : c3_31 = .seq (.region 8 o3_8 false) c3_32), W_seq_reg]
theorem c3_30_s (hw : Cur w) : W Try.prog 96 V3 c3_30 Q e w = (W Try.prog 96 V3 c3_31 (blockQ 1 Q) e w) := by rw [(by kernel_rfl : c3_30 = .block 1 c3_31), W_block]
theorem c3_28_s (hw : Cur w) : W Try.prog 96 V3 c3_28 Q e w = (W Try.prog 96 V3 c3_30 (seqQ (fun e w => W Try.prog 96 V3 c3_29 Q e w) Q) e w) := by rw [(by kernel_rfl : c3_28 = .seq c3_30 c3_29), W_seq]
theorem o3_6_eq : opsW N M G 96 V3 o3_6 k o3_6.toList [] e e w =
    (M (e 7) fun t20 =>
    M (e 0) fun t21 =>
    N (builtin Builtin.len #[22] 3 ([false]).toArray ([t21]).toArray) w fun t22 w =>
    N (xv (xbin BinOp.lss 3 (Operand.tmp 20) (Operand.tmp 22) t20 t22)) w fun t23 w =>
    k (Env.p e 23 t23) w) := nr (by kernel_rfl)
theorem c3_48_v : opV V3 (.tmp 23) = true := by kernel_rfl
theorem c3_48_s (hw : Cur w) : W Try.prog 96 V3 c3_48 Q e w = (condP (ev e (.tmp 23)) (Q .normal e w) (Q (.exit 0) e w)) := by rw [(by kernel_rfl : c3_48 = .cond (.tmp 23) Code.skip (Code.exit 0)), W_cond, c3_48_v, cond_true]; simp only [W_ret, W_skip, W_exit, W_label]
theorem c3_47_s (hw : Cur w) : W Try.prog 96 V3 c3_47 Q e w = (opsW (nx Try.prog) mv gdP 96 V3 o3_6 (fun e w => W Try.prog 96 V3 c3_48 Q e w) o3_6.toList [] e e w) := by rw [(by kernel_rfl : c3_47 = .seq (.region 6 o3_6 false) c3_48), W_seq_reg]
theorem c3_27_s (hw : Cur w) : W Try.prog 96 V3 c3_27 Q e w = (W Try.prog 96 V3 c3_47 (seqQ (fun e w => W Try.prog 96 V3 c3_28 Q e w) Q) e w) := by rw [(by kernel_rfl : c3_27 = .seq c3_47 c3_28), W_seq]
theorem c3_26_s (hw : Cur w) : W Try.prog 96 V3 c3_26 Q e w = (LoopP (fun e w k => W Try.prog 96 V3 c3_27 (seqQ k Q) e w) e w) := by rw [(by kernel_rfl : c3_26 = .loop c3_27), W_loop]
theorem c3_25_s (hw : Cur w) : W Try.prog 96 V3 c3_25 Q e w = (W Try.prog 96 V3 c3_26 (blockQ 0 Q) e w) := by rw [(by kernel_rfl : c3_25 = .block 0 c3_26), W_block]
theorem c3_24_s (hw : Cur w) : W Try.prog 96 V3 c3_24 Q e w = (opsW (nx Try.prog) mv gdP 96 V3 o3_5 (fun e w => W Try.prog 96 V3 c3_25 Q e w) o3_5.toList [] e e w) := by rw [(by kernel_rfl : c3_24 = .seq (.region 5 o3_5 false) c3_25), W_seq_reg]
theorem c3_4_s (hw : Cur w) : W Try.prog 96 V3 c3_4 Q e w = (W Try.prog 96 V3 c3_24 (seqQ (fun e w => W Try.prog 96 V3 c3_5 Q e w) Q) e w) := by rw [(by kernel_rfl : c3_4 = .seq c3_24 c3_5), W_seq]
theorem c3_3_s (hw : Cur w) : W Try.prog 96 V3 c3_3 Q e w = (opsW (nx Try.prog) mv gdP 96 V3 o3_4 (fun e w => W Try.prog 96 V3 c3_4 Q e w) o3_4.toList [] e e w) := by rw [(by kernel_rfl : c3_3 = .seq (.region 4 o3_4 false) c3_4), W_seq_reg]
theorem c3_2_s (hw : Cur w) : W Try.prog 96 V3 c3_2 Q e w = (opsW (nx Try.prog) mv gdP 96 V3 o3_3 (fun e w => W Try.prog 96 V3 c3_3 Q e w) o3_3.toList [] e e w) := by rw [(by kernel_rfl : c3_2 = .seq (.region 3 o3_3 false) c3_3), W_seq_reg]
theorem o3_1_eq : opsW N M G 96 V3 o3_1 k o3_1.toList [] e e w =
    (N (xcall (Value.func (Fn.func 8) #[] #[]) []) w fun t17 w =>
    N (xv (Op.unary UnOp.not t17)) w fun t18 w =>
    k (Env.p e 18 t18) w) := nr (by kernel_rfl)
theorem o3_2_eq : opsW N M G 96 V3 o3_2 k o3_2.toList [] e e w =
    (M (Value.bool false) fun t4 =>
    k (Env.p e 4 t4) w) := nr (by kernel_rfl)
theorem c3_51_s (hw : Cur w) : W Try.prog 96 V3 c3_51 Q e w = (opsW (nx Try.prog) mv gdP 96 V3 o3_2 (fun e w => Q .ret e w) o3_2.toList [] e e w) := by rw [(by kernel_rfl : c3_51 = .seq (.region 2 o3_2 false) Code.ret), W_seq_reg]; simp only [W_ret, W_skip, W_exit, W_label]
theorem c3_50_v : opV V3 (.tmp 18) = true := by kernel_rfl
theorem c3_50_s (hw : Cur w) : W Try.prog 96 V3 c3_50 Q e w = (condP (ev e (.tmp 18)) (W Try.prog 96 V3 c3_51 Q e w) (Q .normal e w)) := by rw [(by kernel_rfl : c3_50 = .cond (.tmp 18) c3_51 Code.skip), W_cond, c3_50_v, cond_true]; simp only [W_ret, W_skip, W_exit, W_label]
theorem c3_49_s (hw : Cur w) : W Try.prog 96 V3 c3_49 Q e w = (opsW (nx Try.prog) mv gdP 96 V3 o3_1 (fun e w => W Try.prog 96 V3 c3_50 Q e w) o3_1.toList [] e e w) := by rw [(by kernel_rfl : c3_49 = .seq (.region 1 o3_1 false) c3_50), W_seq_reg]
theorem c3_1_s (hw : Cur w) : W Try.prog 96 V3 c3_1 Q e w = (W Try.prog 96 V3 c3_49 (seqQ (fun e w => W Try.prog 96 V3 c3_2 Q e w) Q) e w) := by rw [(by kernel_rfl : c3_1 = .seq c3_49 c3_2), W_seq]
theorem c3_s (hw : Cur w) : W Try.prog 96 V3 c3 Q e w = (opsW (nx Try.prog) mv gdP 96 V3 o3_0 (fun e w => W Try.prog 96 V3 c3_1 Q e w) o3_0.toList [] e e w) := by rw [(by kernel_rfl : c3 = .seq (.region 0 o3_0 false) c3_1), W_seq_reg]
theorem call3 {a0 a1 : Value} {w : World} {R : Value → World → Prop} (h : W Try.prog 96 V3 c3 (retQ Try.prog [.tmp 4] R) (argE [a0, a1]) w) : CallsN Try.prog 3 [a0, a1] w R :=
  callsN_of_W (c := c3) (rs := [.tmp 4]) V3 Try.ntmps3 (by rw [Try.results3]) mixed Try.func3 (by kernel_rfl) (by kernel_rfl) (by kernel_rfl) (by kernel_rfl) (by simp) h
noncomputable def hk3 := And.intro (@o3_0_eq) <| And.intro (@o3_3_eq) <| And.intro (@o3_4_eq) <| And.intro (@o3_15_eq) <| And.intro (@o3_23_eq) <| And.intro (@o3_24_eq) <| And.intro (@c3_8_s) <| And.intro (@c3_7_s) <| And.intro (@o3_16_eq) <| And.intro (@o3_18_eq) <| And.intro (@c3_14_s) <| And.intro (@o3_19_eq) <| And.intro (@o3_22_eq) <| And.intro (@c3_18_s) <| And.intro (@o3_20_eq) <| And.intro (@o3_21_eq) <| And.intro (@c3_21_s) <| And.intro (@c3_20_s) <| And.intro (@c3_19_s) <| And.intro (@c3_17_s) <| And.intro (@c3_16_s) <| And.intro (@c3_15_s) <| And.intro (@c3_13_s) <| And.intro (@o3_17_eq) <| And.intro (@c3_23_s) <| And.intro (@c3_22_s) <| And.intro (@c3_12_s) <| And.intro (@c3_11_s) <| And.intro (@c3_10_s) <| And.intro (@c3_9_s) <| And.intro (@c3_6_s) <| And.intro (@c3_5_s) <| And.intro (@o3_5_eq) <| And.intro (@o3_7_eq) <| And.intro (@c3_29_s) <| And.intro (@o3_8_eq) <| And.intro (@o3_10_eq) <| And.intro (@o3_12_eq) <| And.intro (@c3_38_s) <| And.intro (@o3_13_eq) <| And.intro (@o3_14_eq) <| And.intro (@c3_42_s) <| And.intro (@c3_41_s) <| And.intro (@c3_40_s) <| And.intro (@c3_39_s) <| And.intro (@c3_37_s) <| And.intro (@o3_11_eq) <| And.intro (@c3_44_s) <| And.intro (@c3_43_s) <| And.intro (@c3_36_s) <| And.intro (@c3_35_s) <| And.intro (@c3_34_s) <| And.intro (@c3_33_s) <| And.intro (@o3_9_eq) <| And.intro (@c3_46_s) <| And.intro (@c3_45_s) <| And.intro (@c3_32_s) <| And.intro (@c3_31_s) <| And.intro (@c3_30_s) <| And.intro (@c3_28_s) <| And.intro (@o3_6_eq) <| And.intro (@c3_48_s) <| And.intro (@c3_47_s) <| And.intro (@c3_27_s) <| And.intro (@c3_26_s) <| And.intro (@c3_25_s) <| And.intro (@c3_24_s) <| And.intro (@c3_4_s) <| And.intro (@c3_3_s) <| And.intro (@c3_2_s) <| And.intro (@o3_1_eq) <| And.intro (@o3_2_eq) <| And.intro (@c3_51_s) <| And.intro (@c3_50_s) <| And.intro (@c3_49_s) <| And.intro (@c3_1_s) <| @c3_s
-- K3: ↓hk3
/-! ### vouch/vouchlaw06.StreamPieces -/
def V5 : Nat → Bool := fun i => [0, 1, 4, 5, 6, 7, 8, 9, 10, 11, 12, 14, 19, 31, 69, 73, 106].elem i
noncomputable def c5 : Code := (Try.f5.body.getD .skip)
noncomputable def o5_0 : Array Oper := rO (cL c5)
noncomputable def c5_1 : Code := (cR c5)
noncomputable def c5_2 : Code := (cR c5_1)
noncomputable def o5_3 : Array Oper := rO (cL c5_2)
noncomputable def c5_3 : Code := (cR c5_2)
noncomputable def c5_4 : Code := (cR c5_3)
noncomputable def o5_8 : Array Oper := rO (cL c5_4)
noncomputable def c5_5 : Code := (cR c5_4)
noncomputable def c5_6 : Code := (cR c5_5)
noncomputable def o5_22 : Array Oper := rO (cL c5_6)
noncomputable def c5_7 : Code := (cL c5_5)
noncomputable def o5_9 : Array Oper := rO (cL c5_7)
noncomputable def c5_8 : Code := (cR c5_7)
noncomputable def c5_9 : Code := (cL c5_8)
noncomputable def c5_10 : Code := (cL c5_9)
noncomputable def c5_11 : Code := (cR c5_10)
noncomputable def c5_12 : Code := (cR c5_11)
noncomputable def o5_11 : Array Oper := rO c5_12
noncomputable def c5_13 : Code := (cL c5_11)
noncomputable def c5_14 : Code := (cL c5_13)
noncomputable def o5_12 : Array Oper := rO (cL c5_14)
noncomputable def c5_15 : Code := (cR c5_14)
noncomputable def c5_16 : Code := (cR c5_15)
noncomputable def o5_15 : Array Oper := rO (cL c5_16)
noncomputable def c5_17 : Code := (cR c5_16)
noncomputable def c5_18 : Code := (cL c5_17)
noncomputable def c5_19 : Code := (cL c5_18)
noncomputable def c5_20 : Code := (cR c5_19)
noncomputable def c5_21 : Code := (cR c5_20)
noncomputable def o5_17 : Array Oper := rO c5_21
noncomputable def c5_22 : Code := (cL c5_20)
noncomputable def c5_23 : Code := (cL c5_22)
noncomputable def o5_18 : Array Oper := rO (cL c5_23)
noncomputable def c5_24 : Code := (cR c5_23)
noncomputable def o5_19 : Array Oper := rO (cL c5_24)
noncomputable def c5_25 : Code := (cR c5_24)
noncomputable def o5_20 : Array Oper := rO (cL c5_25)
noncomputable def c5_26 : Code := (cR c5_25)
noncomputable def c5_27 : Code := (cL c5_26)
noncomputable def o5_21 : Array Oper := rO (cL c5_27)
noncomputable def c5_28 : Code := (cL c5_19)
noncomputable def o5_16 : Array Oper := rO (cL c5_28)
noncomputable def c5_29 : Code := (cR c5_28)
noncomputable def c5_30 : Code := (cL c5_15)
noncomputable def o5_13 : Array Oper := rO (cL c5_30)
noncomputable def c5_31 : Code := (cR c5_30)
noncomputable def c5_32 : Code := (cL c5_31)
noncomputable def o5_14 : Array Oper := rO (cL c5_32)
noncomputable def c5_33 : Code := (cL c5_10)
noncomputable def o5_10 : Array Oper := rO (cL c5_33)
noncomputable def c5_34 : Code := (cR c5_33)
noncomputable def c5_35 : Code := (cL c5_3)
noncomputable def o5_4 : Array Oper := rO (cL c5_35)
noncomputable def c5_36 : Code := (cR c5_35)
noncomputable def c5_37 : Code := (cL c5_36)
noncomputable def c5_38 : Code := (cL c5_37)
noncomputable def c5_39 : Code := (cR c5_38)
noncomputable def c5_40 : Code := (cR c5_39)
noncomputable def o5_6 : Array Oper := rO c5_40
noncomputable def c5_41 : Code := (cL c5_39)
noncomputable def c5_42 : Code := (cL c5_41)
noncomputable def o5_7 : Array Oper := rO c5_42
noncomputable def c5_43 : Code := (cL c5_38)
noncomputable def o5_5 : Array Oper := rO (cL c5_43)
noncomputable def c5_44 : Code := (cR c5_43)
noncomputable def c5_45 : Code := (cL c5_1)
noncomputable def o5_1 : Array Oper := rO (cL c5_45)
noncomputable def c5_46 : Code := (cR c5_45)
noncomputable def c5_47 : Code := (cL c5_46)
noncomputable def o5_2 : Array Oper := rO (cL c5_47)
theorem o5_0_eq : opsW N M G 111 V5 o5_0 k o5_0.toList [] e e w =
    (M (Value.bool false) fun t4 =>
    k (Env.p e 4 t4) w) := nr (by kernel_rfl)
theorem o5_3_eq : opsW N M G 111 V5 o5_3 k o5_3.toList [] e e w =
    (N (xcall (Value.func (Fn.func 9) #[] #[]) []) w fun t15 w =>
    M t15 fun t5 =>
    k (Env.p e 5 t5) w) := nr (by kernel_rfl)
theorem o5_8_eq : opsW N M G 111 V5 o5_8 k o5_8.toList [] e e w =
    (M (Value.int IntKind.i64 0) fun t7 =>
    k (Env.p e 7 t7) w) := nr (by kernel_rfl)
theorem o5_22_eq : opsW N M G 111 V5 o5_22 k o5_22.toList [] e e w =
    (M (e 7) fun t107 =>
    M (e 5) fun t108 =>
    N (xcall (Value.func (Fn.func 13) #[] #[]) [t108]) w fun t109 w =>
    N (xv (xbin BinOp.leq 2 (Operand.tmp 107) (Operand.tmp 109) t107 t109)) w fun t110 w =>
    M t110 fun t4 =>
    k (Env.p e 4 t4) w) := nr (by kernel_rfl)
theorem c5_6_s (hw : Cur w) : W Try.prog 111 V5 c5_6 Q e w = (opsW (nx Try.prog) mv gdP 111 V5 o5_22 (fun e w => Q .ret e w) o5_22.toList [] e e w) := by rw [(by kernel_rfl : c5_6 = .seq (.region 22 o5_22 false) Code.ret), W_seq_reg]; simp only [W_ret, W_skip, W_exit, W_label]
theorem o5_9_eq : opsW N M G 111 V5 o5_9 k o5_9.toList [] e e w =
    (M (Value.int IntKind.i64 0) fun t8 =>
    k (Env.p e 8 t8) w) := nr (by kernel_rfl)
theorem o5_11_eq : opsW N M G 111 V5 o5_11 k o5_11.toList [] e e w =
    (M (e 8) fun t32 =>
    N (xv (xbin BinOp.add 3 (Operand.tmp 32) (Operand.const (Value.int IntKind.i64 1)) t32 (Value.int IntKind.i64 1))) w fun t33 w =>
    M t33 fun t8 =>
    k (Env.p e 8 t8) w) := nr (by kernel_rfl)
theorem c5_12_s (hw : Cur w) : W Try.prog 111 V5 c5_12 Q e w = (opsW (nx Try.prog) mv gdP 111 V5 o5_11 (fun e w => Q .normal e w) o5_11.toList [] e e w) := by rw [(by kernel_rfl : c5_12 = (.region 11 o5_11 false)), W_reg]
theorem o5_12_eq : opsW N M G 111 V5 o5_12 k o5_12.toList [] e e w =
    (M (e 5) fun t34 =>
    M (e 7) fun t35 =>
    N (xv (xbin BinOp.add 2 (Operand.tmp 35) (Operand.const (Value.int IntKind.i64 1)) t35 (Value.int IntKind.i64 1))) w fun t36 w =>
    M (e 1) fun t37 =>
    M (e 8) fun t38 =>
    N (xv (Instr.indexAt 44 t37 t38)) w fun t39 w =>
    N (xv (Instr.loadAt 5 t39)) w fun t40 w =>
    N (xv (convert 5 3 t40)) w fun t41 w =>
    N (xcall (Value.func (Fn.func 14) #[] #[]) [t34, t36, t41]) w fun t42 w =>
    M t42 fun t9 =>
    k (Env.p e 9 t9) w) := nr (by kernel_rfl)
theorem o5_15_eq : opsW N M G 111 V5 o5_15 k o5_15.toList [] e e w =
    (M (Value.int IntKind.i64 0) fun t10 =>
    k (Env.p e 10 t10) w) := nr (by kernel_rfl)
theorem o5_17_eq : opsW N M G 111 V5 o5_17 k o5_17.toList [] e e w =
    (M (e 10) fun t74 =>
    N (xv (xbin BinOp.add 3 (Operand.tmp 74) (Operand.const (Value.int IntKind.i64 1)) t74 (Value.int IntKind.i64 1))) w fun t75 w =>
    M t75 fun t10 =>
    k (Env.p e 10 t10) w) := nr (by kernel_rfl)
theorem c5_21_s (hw : Cur w) : W Try.prog 111 V5 c5_21 Q e w = (opsW (nx Try.prog) mv gdP 111 V5 o5_17 (fun e w => Q .normal e w) o5_17.toList [] e e w) := by rw [(by kernel_rfl : c5_21 = (.region 17 o5_17 false)), W_reg]
theorem o5_18_eq : opsW N M G 111 V5 o5_18 k o5_18.toList [] e e w =
    (M (e 7) fun t76 =>
    N (xv (xbin BinOp.add 2 (Operand.tmp 76) (Operand.const (Value.int IntKind.i64 1)) t76 (Value.int IntKind.i64 1))) w fun t77 w =>
    M t77 fun t7 =>
    k (Env.p e 7 t7) w) := nr (by kernel_rfl)
theorem o5_19_eq : opsW N M G 111 V5 o5_19 k o5_19.toList [] e e w =
    (M (e 5) fun t79 =>
    M (e 7) fun t80 =>
    N (xcall (Value.func (Fn.func 15) #[] #[]) [t79, t80]) w fun t81 w =>
    M t81 fun t78 =>
    N (xv (Instr.extract t78 0)) w fun t82 w =>
    N (xv (Instr.extract t78 1)) w fun t83 w =>
    N (xv (Instr.alloc 47 true (.tuple #[]))) w fun t11 w =>
    N (xu (Instr.storeAt 47 t11 t82)) w fun _ w =>
    M t83 fun t12 =>
    k (Env.p (Env.p e 11 t11) 12 t12) w) := nr (by kernel_rfl)
theorem o5_20_eq : drawGo N T M G H 111 V5 o5_20 S k o5_20.size true (Array.replicate o5_20.size false) [] e e w =
    (M (e 9) fun t84 =>
    M (e 10) fun t85 =>
    T (xv (Instr.indexAt 36 t84 t85)) fun t86 =>
    T (xv (Instr.fieldAt 47 t86 0)) fun t87 =>
    T (xv (Instr.loadAt 2 t87)) fun t88 =>
    M (e 7) fun t89 =>
    T (xv (xbin BinOp.neq 2 (Operand.tmp 88) (Operand.tmp 89) t88 t89)) fun t90 =>
    M t90 fun t91 =>
    H (isB t91 false) (fun K => M (e 12) K) (fun t92 =>
    H (isB t91 false) (fun K => T (xv (xbin BinOp.neq 27 (Operand.tmp 92) (Operand.const (Value.int IntKind.i64 0)) t92 (Value.int IntKind.i64 0))) K) (fun t93 =>
    T (xpick t91 (Value.bool true) t93) fun t94 =>
    M t94 fun t95 =>
    H (isB t95 false) (fun K => T (xv (Instr.fieldAt 47 (e 11) 1)) K) (fun t96 =>
    H (isB t95 false) (fun K => T (xv (Instr.loadAt 30 t96)) K) (fun t97 =>
    H (isB t95 false) (fun K => T (builtin Builtin.len #[30] 3 ([false]).toArray ([t97]).toArray) K) (fun t98 =>
    H (isB t95 false) (fun K => M (e 9) K) (fun t99 =>
    H (isB t95 false) (fun K => M (e 10) K) (fun t100 =>
    H (isB t95 false) (fun K => T (xv (Instr.indexAt 36 t99 t100)) K) (fun t101 =>
    H (isB t95 false) (fun K => T (xv (Instr.fieldAt 47 t101 1)) K) (fun t102 =>
    H (isB t95 false) (fun K => T (xv (Instr.loadAt 30 t102)) K) (fun t103 =>
    H (isB t95 false) (fun K => T (builtin Builtin.len #[30] 3 ([false]).toArray ([t103]).toArray) K) (fun t104 =>
    H (isB t95 false) (fun K => T (xv (xbin BinOp.neq 3 (Operand.tmp 98) (Operand.tmp 104) t98 t104)) K) (fun t105 =>
    T (xpick t95 (Value.bool true) t105) fun t106 =>
    k (Env.p e 106 t106) w))))))))))))) := nr (by kernel_rfl)
theorem o5_21_eq : opsW N M G 111 V5 o5_21 k o5_21.toList [] e e w =
    (M (Value.bool false) fun t4 =>
    k (Env.p e 4 t4) w) := nr (by kernel_rfl)
theorem c5_27_s (hw : Cur w) : W Try.prog 111 V5 c5_27 Q e w = (opsW (nx Try.prog) mv gdP 111 V5 o5_21 (fun e w => Q .ret e w) o5_21.toList [] e e w) := by rw [(by kernel_rfl : c5_27 = .seq (.region 21 o5_21 false) Code.ret), W_seq_reg]; simp only [W_ret, W_skip, W_exit, W_label]
theorem c5_26_v : opV V5 (.tmp 106) = true := by kernel_rfl
theorem c5_26_s (hw : Cur w) : W Try.prog 111 V5 c5_26 Q e w = (condP (ev e (.tmp 106)) (W Try.prog 111 V5 c5_27 Q e w) (Q .normal e w)) := by rw [(by kernel_rfl : c5_26 = .cond (.tmp 106) c5_27 Code.skip), W_cond, c5_26_v, cond_true]; simp only [W_ret, W_skip, W_exit, W_label]
theorem c5_25_s (hw : Cur w) : W Try.prog 111 V5 c5_25 Q e w = (∃ S : World → Prop, S w.drew ∧ drawGo (nx Try.prog) (takeP Try.prog S) mv gdP gdT 111 V5 o5_20 S (fun e w => W Try.prog 111 V5 c5_26 Q e w) o5_20.size true (Array.replicate o5_20.size false) [] e e w.drew) := by rw [(by kernel_rfl : c5_25 = .seq (.region 20 o5_20 true) c5_26), W_seq_regD]
theorem c5_24_s (hw : Cur w) : W Try.prog 111 V5 c5_24 Q e w = (opsW (nx Try.prog) mv gdP 111 V5 o5_19 (fun e w => W Try.prog 111 V5 c5_25 Q e w) o5_19.toList [] e e w) := by rw [(by kernel_rfl : c5_24 = .seq (.region 19 o5_19 false) c5_25), W_seq_reg]
theorem c5_23_s (hw : Cur w) : W Try.prog 111 V5 c5_23 Q e w = (opsW (nx Try.prog) mv gdP 111 V5 o5_18 (fun e w => W Try.prog 111 V5 c5_24 Q e w) o5_18.toList [] e e w) := by rw [(by kernel_rfl : c5_23 = .seq (.region 18 o5_18 false) c5_24), W_seq_reg]
theorem c5_22_s (hw : Cur w) : W Try.prog 111 V5 c5_22 Q e w = (W Try.prog 111 V5 c5_23 (blockQ 5 Q) e w) := by rw [(by kernel_rfl : c5_22 = .block 5 c5_23), W_block]
theorem c5_20_s (hw : Cur w) : W Try.prog 111 V5 c5_20 Q e w = (W Try.prog 111 V5 c5_22 (seqQ (fun e w => W Try.prog 111 V5 c5_21 Q e w) Q) e w) := by rw [(by kernel_rfl : c5_20 = .seq c5_22 c5_21), W_seq]
theorem o5_16_eq : opsW N M G 111 V5 o5_16 k o5_16.toList [] e e w =
    (M (e 10) fun t70 =>
    M (e 9) fun t71 =>
    N (builtin Builtin.len #[36] 3 ([false]).toArray ([t71]).toArray) w fun t72 w =>
    N (xv (xbin BinOp.lss 3 (Operand.tmp 70) (Operand.tmp 72) t70 t72)) w fun t73 w =>
    k (Env.p e 73 t73) w) := nr (by kernel_rfl)
theorem c5_29_v : opV V5 (.tmp 73) = true := by kernel_rfl
theorem c5_29_s (hw : Cur w) : W Try.prog 111 V5 c5_29 Q e w = (condP (ev e (.tmp 73)) (Q .normal e w) (Q (.exit 4) e w)) := by rw [(by kernel_rfl : c5_29 = .cond (.tmp 73) Code.skip (Code.exit 4)), W_cond, c5_29_v, cond_true]; simp only [W_ret, W_skip, W_exit, W_label]
theorem c5_28_s (hw : Cur w) : W Try.prog 111 V5 c5_28 Q e w = (opsW (nx Try.prog) mv gdP 111 V5 o5_16 (fun e w => W Try.prog 111 V5 c5_29 Q e w) o5_16.toList [] e e w) := by rw [(by kernel_rfl : c5_28 = .seq (.region 16 o5_16 false) c5_29), W_seq_reg]
theorem c5_19_s (hw : Cur w) : W Try.prog 111 V5 c5_19 Q e w = (W Try.prog 111 V5 c5_28 (seqQ (fun e w => W Try.prog 111 V5 c5_20 Q e w) Q) e w) := by rw [(by kernel_rfl : c5_19 = .seq c5_28 c5_20), W_seq]
theorem c5_18_s (hw : Cur w) : W Try.prog 111 V5 c5_18 Q e w = (LoopP (fun e w k => W Try.prog 111 V5 c5_19 (seqQ k Q) e w) e w) := by rw [(by kernel_rfl : c5_18 = .loop c5_19), W_loop]
theorem c5_17_s (hw : Cur w) : W Try.prog 111 V5 c5_17 Q e w = (W Try.prog 111 V5 c5_18 (blockQ 4 Q) e w) := by rw [(by kernel_rfl : c5_17 = .block 4 c5_18), W_block]
theorem c5_16_s (hw : Cur w) : W Try.prog 111 V5 c5_16 Q e w = (opsW (nx Try.prog) mv gdP 111 V5 o5_15 (fun e w => W Try.prog 111 V5 c5_17 Q e w) o5_15.toList [] e e w) := by rw [(by kernel_rfl : c5_16 = .seq (.region 15 o5_15 false) c5_17), W_seq_reg]
theorem o5_13_eq : opsW N M G 111 V5 o5_13 k o5_13.toList [] e e w =
    (M (e 9) fun t43 =>
    N (builtin Builtin.len #[36] 3 ([false]).toArray ([t43]).toArray) w fun t44 w =>
    M (e 1) fun t45 =>
    M (e 8) fun t46 =>
    N (xv (Instr.indexAt 44 t45 t46)) w fun t47 w =>
    N (xv (Instr.loadAt 5 t47)) w fun t48 w =>
    N (xv (convert 5 3 t48)) w fun t49 w =>
    N (xv (xbin BinOp.gtr 3 (Operand.tmp 44) (Operand.tmp 49) t44 t49)) w fun t50 w =>
    M t50 fun t51 =>
    G (isB t51 false) (fun K => M (e 9) fun v => K v w) (fun t52 w =>
    G (isB t51 false) (fun K => N (builtin Builtin.len #[36] 3 ([false]).toArray ([t52]).toArray) w K) (fun t53 w =>
    G (isB t51 false) (fun K => M (e 1) fun v => K v w) (fun t54 w =>
    G (isB t51 false) (fun K => M (e 8) fun v => K v w) (fun t55 w =>
    G (isB t51 false) (fun K => N (xv (Instr.indexAt 44 t54 t55)) w K) (fun t56 w =>
    G (isB t51 false) (fun K => N (xv (Instr.loadAt 5 t56)) w K) (fun t57 w =>
    G (isB t51 false) (fun K => N (xv (convert 5 3 t57)) w K) (fun t58 w =>
    G (isB t51 false) (fun K => N (xv (xbin BinOp.lss 3 (Operand.tmp 53) (Operand.tmp 58) t53 t58)) w K) (fun t59 w =>
    G (isB t51 false) (fun K => M t59 fun v => K v w) (fun t60 w =>
    G (isB t60 true) (fun K => M (e 7) fun v => K v w) (fun t61 w =>
    G (isB t60 true) (fun K => M (e 9) fun v => K v w) (fun t62 w =>
    G (isB t60 true) (fun K => N (builtin Builtin.len #[36] 3 ([false]).toArray ([t62]).toArray) w K) (fun t63 w =>
    G (isB t60 true) (fun K => N (xv (xbin BinOp.add 2 (Operand.tmp 61) (Operand.tmp 63) t61 t63)) w K) (fun t64 w =>
    G (isB t60 true) (fun K => M (e 5) fun v => K v w) (fun t65 w =>
    G (isB t60 true) (fun K => N (xcall (Value.func (Fn.func 13) #[] #[]) [t65]) w K) (fun t66 w =>
    G (isB t60 true) (fun K => N (xv (xbin BinOp.neq 2 (Operand.tmp 64) (Operand.tmp 66) t64 t66)) w K) (fun t67 w =>
    G (isB t51 false) (fun K => N (xpick t60 t67 (Value.bool false)) w K) (fun t68 w =>
    N (xpick t51 (Value.bool true) t68) w fun t69 w =>
    k (Env.p e 69 t69) w) w) w) w) w) w) w) w) w) w) w) w) w) w) w) w) w) w) := nr (by kernel_rfl)
theorem o5_14_eq : opsW N M G 111 V5 o5_14 k o5_14.toList [] e e w =
    (M (Value.bool false) fun t4 =>
    k (Env.p e 4 t4) w) := nr (by kernel_rfl)
theorem c5_32_s (hw : Cur w) : W Try.prog 111 V5 c5_32 Q e w = (opsW (nx Try.prog) mv gdP 111 V5 o5_14 (fun e w => Q .ret e w) o5_14.toList [] e e w) := by rw [(by kernel_rfl : c5_32 = .seq (.region 14 o5_14 false) Code.ret), W_seq_reg]; simp only [W_ret, W_skip, W_exit, W_label]
theorem c5_31_v : opV V5 (.tmp 69) = true := by kernel_rfl
theorem c5_31_s (hw : Cur w) : W Try.prog 111 V5 c5_31 Q e w = (condP (ev e (.tmp 69)) (W Try.prog 111 V5 c5_32 Q e w) (Q .normal e w)) := by rw [(by kernel_rfl : c5_31 = .cond (.tmp 69) c5_32 Code.skip), W_cond, c5_31_v, cond_true]; simp only [W_ret, W_skip, W_exit, W_label]
theorem c5_30_s (hw : Cur w) : W Try.prog 111 V5 c5_30 Q e w = (opsW (nx Try.prog) mv gdP 111 V5 o5_13 (fun e w => W Try.prog 111 V5 c5_31 Q e w) o5_13.toList [] e e w) := by rw [(by kernel_rfl : c5_30 = .seq (.region 13 o5_13 false) c5_31), W_seq_reg]
theorem c5_15_s (hw : Cur w) : W Try.prog 111 V5 c5_15 Q e w = (W Try.prog 111 V5 c5_30 (seqQ (fun e w => W Try.prog 111 V5 c5_16 Q e w) Q) e w) := by rw [(by kernel_rfl : c5_15 = .seq c5_30 c5_16), W_seq]
theorem c5_14_s (hw : Cur w) : W Try.prog 111 V5 c5_14 Q e w = (opsW (nx Try.prog) mv gdP 111 V5 o5_12 (fun e w => W Try.prog 111 V5 c5_15 Q e w) o5_12.toList [] e e w) := by rw [(by kernel_rfl : c5_14 = .seq (.region 12 o5_12 false) c5_15), W_seq_reg]
theorem c5_13_s (hw : Cur w) : W Try.prog 111 V5 c5_13 Q e w = (W Try.prog 111 V5 c5_14 (blockQ 3 Q) e w) := by rw [(by kernel_rfl : c5_13 = .block 3 c5_14), W_block]
theorem c5_11_s (hw : Cur w) : W Try.prog 111 V5 c5_11 Q e w = (W Try.prog 111 V5 c5_13 (seqQ (fun e w => W Try.prog 111 V5 c5_12 Q e w) Q) e w) := by rw [(by kernel_rfl : c5_11 = .seq c5_13 c5_12), W_seq]
theorem o5_10_eq : opsW N M G 111 V5 o5_10 k o5_10.toList [] e e w =
    (M (e 8) fun t28 =>
    M (e 1) fun t29 =>
    N (builtin Builtin.len #[44] 3 ([false]).toArray ([t29]).toArray) w fun t30 w =>
    N (xv (xbin BinOp.lss 3 (Operand.tmp 28) (Operand.tmp 30) t28 t30)) w fun t31 w =>
    k (Env.p e 31 t31) w) := nr (by kernel_rfl)
theorem c5_34_v : opV V5 (.tmp 31) = true := by kernel_rfl
theorem c5_34_s (hw : Cur w) : W Try.prog 111 V5 c5_34 Q e w = (condP (ev e (.tmp 31)) (Q .normal e w) (Q (.exit 2) e w)) := by rw [(by kernel_rfl : c5_34 = .cond (.tmp 31) Code.skip (Code.exit 2)), W_cond, c5_34_v, cond_true]; simp only [W_ret, W_skip, W_exit, W_label]
theorem c5_33_s (hw : Cur w) : W Try.prog 111 V5 c5_33 Q e w = (opsW (nx Try.prog) mv gdP 111 V5 o5_10 (fun e w => W Try.prog 111 V5 c5_34 Q e w) o5_10.toList [] e e w) := by rw [(by kernel_rfl : c5_33 = .seq (.region 10 o5_10 false) c5_34), W_seq_reg]
theorem c5_10_s (hw : Cur w) : W Try.prog 111 V5 c5_10 Q e w = (W Try.prog 111 V5 c5_33 (seqQ (fun e w => W Try.prog 111 V5 c5_11 Q e w) Q) e w) := by rw [(by kernel_rfl : c5_10 = .seq c5_33 c5_11), W_seq]
theorem c5_9_s (hw : Cur w) : W Try.prog 111 V5 c5_9 Q e w = (LoopP (fun e w k => W Try.prog 111 V5 c5_10 (seqQ k Q) e w) e w) := by rw [(by kernel_rfl : c5_9 = .loop c5_10), W_loop]
theorem c5_8_s (hw : Cur w) : W Try.prog 111 V5 c5_8 Q e w = (W Try.prog 111 V5 c5_9 (blockQ 2 Q) e w) := by rw [(by kernel_rfl : c5_8 = .block 2 c5_9), W_block]
theorem c5_7_s (hw : Cur w) : W Try.prog 111 V5 c5_7 Q e w = (opsW (nx Try.prog) mv gdP 111 V5 o5_9 (fun e w => W Try.prog 111 V5 c5_8 Q e w) o5_9.toList [] e e w) := by rw [(by kernel_rfl : c5_7 = .seq (.region 9 o5_9 false) c5_8), W_seq_reg]
theorem c5_5_s (hw : Cur w) : W Try.prog 111 V5 c5_5 Q e w = (W Try.prog 111 V5 c5_7 (seqQ (fun e w => W Try.prog 111 V5 c5_6 Q e w) Q) e w) := by rw [(by kernel_rfl : c5_5 = .seq c5_7 c5_6), W_seq]
theorem c5_4_s (hw : Cur w) : W Try.prog 111 V5 c5_4 Q e w = (opsW (nx Try.prog) mv gdP 111 V5 o5_8 (fun e w => W Try.prog 111 V5 c5_5 Q e w) o5_8.toList [] e e w) := by rw [(by kernel_rfl : c5_4 = .seq (.region 8 o5_8 false) c5_5), W_seq_reg]
theorem o5_4_eq : opsW N M G 111 V5 o5_4 k o5_4.toList [] e e w =
    (M (Value.int IntKind.i64 0) fun t6 =>
    k (Env.p e 6 t6) w) := nr (by kernel_rfl)
theorem o5_6_eq : opsW N M G 111 V5 o5_6 k o5_6.toList [] e e w =
    (M (e 6) fun t20 =>
    N (xv (xbin BinOp.add 3 (Operand.tmp 20) (Operand.const (Value.int IntKind.i64 1)) t20 (Value.int IntKind.i64 1))) w fun t21 w =>
    M t21 fun t6 =>
    k (Env.p e 6 t6) w) := nr (by kernel_rfl)
theorem c5_40_s (hw : Cur w) : W Try.prog 111 V5 c5_40 Q e w = (opsW (nx Try.prog) mv gdP 111 V5 o5_6 (fun e w => Q .normal e w) o5_6.toList [] e e w) := by rw [(by kernel_rfl : c5_40 = (.region 6 o5_6 false)), W_reg]
theorem o5_7_eq : opsW N M G 111 V5 o5_7 k o5_7.toList [] e e w =
    (M (e 5) fun t22 =>
    M (e 0) fun t23 =>
    M (e 6) fun t24 =>
    N (xv (Instr.indexAt 22 t23 t24)) w fun t25 w =>
    N (xv (Instr.loadAt 30 t25)) w fun t26 w =>
    N (xcall (Value.func (Fn.func 10) #[] #[]) [t22, t26]) w fun t27 w =>
    k e w) := nr (by kernel_rfl)
theorem c5_42_s (hw : Cur w) : W Try.prog 111 V5 c5_42 Q e w = (opsW (nx Try.prog) mv gdP 111 V5 o5_7 (fun e w => Q .normal e w) o5_7.toList [] e e w) := by rw [(by kernel_rfl : c5_42 = (.region 7 o5_7 false)), W_reg]
theorem c5_41_s (hw : Cur w) : W Try.prog 111 V5 c5_41 Q e w = (W Try.prog 111 V5 c5_42 (blockQ 1 Q) e w) := by rw [(by kernel_rfl : c5_41 = .block 1 c5_42), W_block]
theorem c5_39_s (hw : Cur w) : W Try.prog 111 V5 c5_39 Q e w = (W Try.prog 111 V5 c5_41 (seqQ (fun e w => W Try.prog 111 V5 c5_40 Q e w) Q) e w) := by rw [(by kernel_rfl : c5_39 = .seq c5_41 c5_40), W_seq]
theorem o5_5_eq : opsW N M G 111 V5 o5_5 k o5_5.toList [] e e w =
    (M (e 6) fun t16 =>
    M (e 0) fun t17 =>
    N (builtin Builtin.len #[22] 3 ([false]).toArray ([t17]).toArray) w fun t18 w =>
    N (xv (xbin BinOp.lss 3 (Operand.tmp 16) (Operand.tmp 18) t16 t18)) w fun t19 w =>
    k (Env.p e 19 t19) w) := nr (by kernel_rfl)
theorem c5_44_v : opV V5 (.tmp 19) = true := by kernel_rfl
theorem c5_44_s (hw : Cur w) : W Try.prog 111 V5 c5_44 Q e w = (condP (ev e (.tmp 19)) (Q .normal e w) (Q (.exit 0) e w)) := by rw [(by kernel_rfl : c5_44 = .cond (.tmp 19) Code.skip (Code.exit 0)), W_cond, c5_44_v, cond_true]; simp only [W_ret, W_skip, W_exit, W_label]
theorem c5_43_s (hw : Cur w) : W Try.prog 111 V5 c5_43 Q e w = (opsW (nx Try.prog) mv gdP 111 V5 o5_5 (fun e w => W Try.prog 111 V5 c5_44 Q e w) o5_5.toList [] e e w) := by rw [(by kernel_rfl : c5_43 = .seq (.region 5 o5_5 false) c5_44), W_seq_reg]
theorem c5_38_s (hw : Cur w) : W Try.prog 111 V5 c5_38 Q e w = (W Try.prog 111 V5 c5_43 (seqQ (fun e w => W Try.prog 111 V5 c5_39 Q e w) Q) e w) := by rw [(by kernel_rfl : c5_38 = .seq c5_43 c5_39), W_seq]
theorem c5_37_s (hw : Cur w) : W Try.prog 111 V5 c5_37 Q e w = (LoopP (fun e w k => W Try.prog 111 V5 c5_38 (seqQ k Q) e w) e w) := by rw [(by kernel_rfl : c5_37 = .loop c5_38), W_loop]
theorem c5_36_s (hw : Cur w) : W Try.prog 111 V5 c5_36 Q e w = (W Try.prog 111 V5 c5_37 (blockQ 0 Q) e w) := by rw [(by kernel_rfl : c5_36 = .block 0 c5_37), W_block]
theorem c5_35_s (hw : Cur w) : W Try.prog 111 V5 c5_35 Q e w = (opsW (nx Try.prog) mv gdP 111 V5 o5_4 (fun e w => W Try.prog 111 V5 c5_36 Q e w) o5_4.toList [] e e w) := by rw [(by kernel_rfl : c5_35 = .seq (.region 4 o5_4 false) c5_36), W_seq_reg]
theorem c5_3_s (hw : Cur w) : W Try.prog 111 V5 c5_3 Q e w = (W Try.prog 111 V5 c5_35 (seqQ (fun e w => W Try.prog 111 V5 c5_4 Q e w) Q) e w) := by rw [(by kernel_rfl : c5_3 = .seq c5_35 c5_4), W_seq]
theorem c5_2_s (hw : Cur w) : W Try.prog 111 V5 c5_2 Q e w = (opsW (nx Try.prog) mv gdP 111 V5 o5_3 (fun e w => W Try.prog 111 V5 c5_3 Q e w) o5_3.toList [] e e w) := by rw [(by kernel_rfl : c5_2 = .seq (.region 3 o5_3 false) c5_3), W_seq_reg]
theorem o5_1_eq : opsW N M G 111 V5 o5_1 k o5_1.toList [] e e w =
    (N (xcall (Value.func (Fn.func 8) #[] #[]) []) w fun t13 w =>
    N (xv (Op.unary UnOp.not t13)) w fun t14 w =>
    k (Env.p e 14 t14) w) := nr (by kernel_rfl)
theorem o5_2_eq : opsW N M G 111 V5 o5_2 k o5_2.toList [] e e w =
    (M (Value.bool false) fun t4 =>
    k (Env.p e 4 t4) w) := nr (by kernel_rfl)
theorem c5_47_s (hw : Cur w) : W Try.prog 111 V5 c5_47 Q e w = (opsW (nx Try.prog) mv gdP 111 V5 o5_2 (fun e w => Q .ret e w) o5_2.toList [] e e w) := by rw [(by kernel_rfl : c5_47 = .seq (.region 2 o5_2 false) Code.ret), W_seq_reg]; simp only [W_ret, W_skip, W_exit, W_label]
theorem c5_46_v : opV V5 (.tmp 14) = true := by kernel_rfl
theorem c5_46_s (hw : Cur w) : W Try.prog 111 V5 c5_46 Q e w = (condP (ev e (.tmp 14)) (W Try.prog 111 V5 c5_47 Q e w) (Q .normal e w)) := by rw [(by kernel_rfl : c5_46 = .cond (.tmp 14) c5_47 Code.skip), W_cond, c5_46_v, cond_true]; simp only [W_ret, W_skip, W_exit, W_label]
theorem c5_45_s (hw : Cur w) : W Try.prog 111 V5 c5_45 Q e w = (opsW (nx Try.prog) mv gdP 111 V5 o5_1 (fun e w => W Try.prog 111 V5 c5_46 Q e w) o5_1.toList [] e e w) := by rw [(by kernel_rfl : c5_45 = .seq (.region 1 o5_1 false) c5_46), W_seq_reg]
theorem c5_1_s (hw : Cur w) : W Try.prog 111 V5 c5_1 Q e w = (W Try.prog 111 V5 c5_45 (seqQ (fun e w => W Try.prog 111 V5 c5_2 Q e w) Q) e w) := by rw [(by kernel_rfl : c5_1 = .seq c5_45 c5_2), W_seq]
theorem c5_s (hw : Cur w) : W Try.prog 111 V5 c5 Q e w = (opsW (nx Try.prog) mv gdP 111 V5 o5_0 (fun e w => W Try.prog 111 V5 c5_1 Q e w) o5_0.toList [] e e w) := by rw [(by kernel_rfl : c5 = .seq (.region 0 o5_0 false) c5_1), W_seq_reg]
theorem call5 {a0 a1 : Value} {w : World} {R : Value → World → Prop} (h : W Try.prog 111 V5 c5 (retQ Try.prog [.tmp 4] R) (argE [a0, a1]) w) : CallsN Try.prog 5 [a0, a1] w R :=
  callsN_of_W (c := c5) (rs := [.tmp 4]) V5 Try.ntmps5 (by rw [Try.results5]) mixed Try.func5 (by kernel_rfl) (by kernel_rfl) (by kernel_rfl) (by kernel_rfl) (by simp) h
noncomputable def hk5 := And.intro (@o5_0_eq) <| And.intro (@o5_3_eq) <| And.intro (@o5_8_eq) <| And.intro (@o5_22_eq) <| And.intro (@c5_6_s) <| And.intro (@o5_9_eq) <| And.intro (@o5_11_eq) <| And.intro (@c5_12_s) <| And.intro (@o5_12_eq) <| And.intro (@o5_15_eq) <| And.intro (@o5_17_eq) <| And.intro (@c5_21_s) <| And.intro (@o5_18_eq) <| And.intro (@o5_19_eq) <| And.intro (@o5_20_eq) <| And.intro (@o5_21_eq) <| And.intro (@c5_27_s) <| And.intro (@c5_26_s) <| And.intro (@c5_25_s) <| And.intro (@c5_24_s) <| And.intro (@c5_23_s) <| And.intro (@c5_22_s) <| And.intro (@c5_20_s) <| And.intro (@o5_16_eq) <| And.intro (@c5_29_s) <| And.intro (@c5_28_s) <| And.intro (@c5_19_s) <| And.intro (@c5_18_s) <| And.intro (@c5_17_s) <| And.intro (@c5_16_s) <| And.intro (@o5_13_eq) <| And.intro (@o5_14_eq) <| And.intro (@c5_32_s) <| And.intro (@c5_31_s) <| And.intro (@c5_30_s) <| And.intro (@c5_15_s) <| And.intro (@c5_14_s) <| And.intro (@c5_13_s) <| And.intro (@c5_11_s) <| And.intro (@o5_10_eq) <| And.intro (@c5_34_s) <| And.intro (@c5_33_s) <| And.intro (@c5_10_s) <| And.intro (@c5_9_s) <| And.intro (@c5_8_s) <| And.intro (@c5_7_s) <| And.intro (@c5_5_s) <| And.intro (@c5_4_s) <| And.intro (@o5_4_eq) <| And.intro (@o5_6_eq) <| And.intro (@c5_40_s) <| And.intro (@o5_7_eq) <| And.intro (@c5_42_s) <| And.intro (@c5_41_s) <| And.intro (@c5_39_s) <| And.intro (@o5_5_eq) <| And.intro (@c5_44_s) <| And.intro (@c5_43_s) <| And.intro (@c5_38_s) <| And.intro (@c5_37_s) <| And.intro (@c5_36_s) <| And.intro (@c5_35_s) <| And.intro (@c5_3_s) <| And.intro (@c5_2_s) <| And.intro (@o5_1_eq) <| And.intro (@o5_2_eq) <| And.intro (@c5_47_s) <| And.intro (@c5_46_s) <| And.intro (@c5_45_s) <| And.intro (@c5_1_s) <| @c5_s
-- K5: ↓hk5
/-! ### vouch/vouchlaw06.StreamNone -/
def V7 : Nat → Bool := fun i => [0, 1, 2, 3, 4, 5, 6, 7, 8, 9, 10, 11, 12, 14, 85].elem i
noncomputable def c7 : Code := (Try.f7.body.getD .skip)
noncomputable def o7_0 : Array Oper := rO (cL c7)
noncomputable def c7_1 : Code := (cR c7)
noncomputable def c7_2 : Code := (cR c7_1)
noncomputable def o7_3 : Array Oper := rO (cL c7_2)
noncomputable def c7_3 : Code := (cR c7_2)
noncomputable def o7_4 : Array Oper := rO (cL c7_3)
noncomputable def c7_4 : Code := (cR c7_3)
noncomputable def o7_5 : Array Oper := rO (cL c7_4)
noncomputable def c7_5 : Code := (cR c7_4)
noncomputable def o7_6 : Array Oper := rO (cL c7_5)
noncomputable def c7_6 : Code := (cR c7_5)
noncomputable def c7_7 : Code := (cR c7_6)
noncomputable def o7_9 : Array Oper := rO (cL c7_7)
noncomputable def c7_8 : Code := (cR c7_7)
noncomputable def o7_10 : Array Oper := rO (cL c7_8)
noncomputable def c7_9 : Code := (cR c7_8)
noncomputable def o7_11 : Array Oper := rO (cL c7_9)
noncomputable def c7_10 : Code := (cL c7_6)
noncomputable def o7_7 : Array Oper := rO (cL c7_10)
noncomputable def c7_11 : Code := (cR c7_10)
noncomputable def c7_12 : Code := (cL c7_11)
noncomputable def o7_8 : Array Oper := rO (cL c7_12)
noncomputable def c7_13 : Code := (cL c7_1)
noncomputable def o7_1 : Array Oper := rO (cL c7_13)
noncomputable def c7_14 : Code := (cR c7_13)
noncomputable def c7_15 : Code := (cL c7_14)
noncomputable def o7_2 : Array Oper := rO (cL c7_15)
theorem o7_0_eq : opsW N M G 100 V7 o7_0 k o7_0.toList [] e e w =
    (N (xv (Instr.box 41 (e 0))) w fun t1 w =>
    M (Value.bool false) fun t2 =>
    k (Env.p (Env.p e 1 t1) 2 t2) w) := nr (by kernel_rfl)
theorem o7_3_eq : opsW N M G 100 V7 o7_3 k o7_3.toList [] e e w =
    (M (Value.pointer none) fun t3 =>
    k (Env.p e 3 t3) w) := nr (by kernel_rfl)
theorem o7_4_eq : opsW N M G 100 V7 o7_4 k o7_4.toList [] e e w =
    (M (e 3) fun t16 =>
    N (xv (Instr.fieldAt 41 (e 1) 1)) w fun t17 w =>
    N (xv (Instr.loadAt 30 t17)) w fun t18 w =>
    N (xcall (Value.func (Fn.func 10) #[] #[]) [t16, t18]) w fun t19 w =>
    M t19 fun t15 =>
    N (xv (Instr.extract t15 0)) w fun t20 w =>
    N (xv (Instr.extract t15 1)) w fun t21 w =>
    M t20 fun t4 =>
    M t21 fun t5 =>
    k (Env.p (Env.p e 4 t4) 5 t5) w) := nr (by kernel_rfl)
theorem o7_5_eq : opsW N M G 100 V7 o7_5 k o7_5.toList [] e e w =
    (M (e 3) fun t23 =>
    N (xv (Instr.fieldAt 41 (e 1) 3)) w fun t24 w =>
    N (xv (Instr.loadAt 2 t24)) w fun t25 w =>
    N (xcall (Value.func (Fn.func 15) #[] #[]) [t23, t25]) w fun t26 w =>
    M t26 fun t22 =>
    N (xv (Instr.extract t22 0)) w fun t27 w =>
    N (xv (Instr.extract t22 1)) w fun t28 w =>
    N (xv (Instr.alloc 47 true (.tuple #[]))) w fun t6 w =>
    N (xu (Instr.storeAt 47 t6 t27)) w fun _ w =>
    M t28 fun t7 =>
    k (Env.p (Env.p e 6 t6) 7 t7) w) := nr (by kernel_rfl)
theorem o7_6_eq : opsW N M G 100 V7 o7_6 k o7_6.toList [] e e w =
    (M (e 3) fun t30 =>
    N (xv (Instr.fieldAt 41 (e 1) 2)) w fun t31 w =>
    N (xv (Instr.loadAt 9 t31)) w fun t32 w =>
    N (xv (Instr.fieldAt 41 (e 1) 3)) w fun t33 w =>
    N (xv (Instr.loadAt 2 t33)) w fun t34 w =>
    N (xcall (Value.func (Fn.func 11) #[] #[]) [t30, t32, t34]) w fun t35 w =>
    M t35 fun t29 =>
    N (xv (Instr.extract t29 0)) w fun t36 w =>
    N (xv (Instr.extract t29 1)) w fun t37 w =>
    M t36 fun t8 =>
    M t37 fun t9 =>
    k (Env.p (Env.p e 8 t8) 9 t9) w) := nr (by kernel_rfl)
theorem o7_9_eq : opsW N M G 100 V7 o7_9 k o7_9.toList [] e e w =
    (N (xv (Instr.build 56 ([]).toArray)) w fun t86 w =>
    N (xv (Instr.box 56 t86)) w fun t87 w =>
    M t87 fun t10 =>
    k (Env.p e 10 t10) w) := nr (by kernel_rfl)
theorem o7_10_eq : opsW N M G 100 V7 o7_10 k o7_10.toList [] e e w =
    (M (e 10) fun t89 =>
    N (xv (Instr.buildSlice 30 1 ([(0, (Value.string ⟨#[97]⟩))]).toArray)) w fun t90 w =>
    N (xcall (Value.func (Fn.func 10) #[] #[]) [t89, t90]) w fun t91 w =>
    M t91 fun t88 =>
    N (xv (Instr.extract t88 0)) w fun t92 w =>
    N (xv (Instr.extract t88 1)) w fun t93 w =>
    M t92 fun t11 =>
    M t93 fun t12 =>
    k (Env.p (Env.p e 11 t11) 12 t12) w) := nr (by kernel_rfl)
theorem o7_11_eq : opsW N M G 100 V7 o7_11 k o7_11.toList [] e e w =
    (M (e 11) fun t94 =>
    N (xv (xbin BinOp.eql 2 (Operand.tmp 94) (Operand.const (Value.int IntKind.i64 1)) t94 (Value.int IntKind.i64 1))) w fun t95 w =>
    M t95 fun t96 =>
    G (isB t96 true) (fun K => M (e 12) fun v => K v w) (fun t97 w =>
    G (isB t96 true) (fun K => N (xv (xbin BinOp.eql 27 (Operand.tmp 97) (Operand.const (Value.int IntKind.i64 0)) t97 (Value.int IntKind.i64 0))) w K) (fun t98 w =>
    N (xpick t96 t98 (Value.bool false)) w fun t99 w =>
    M t99 fun t2 =>
    k (Env.p e 2 t2) w) w) w) := nr (by kernel_rfl)
theorem c7_9_s (hw : Cur w) : W Try.prog 100 V7 c7_9 Q e w = (opsW (nx Try.prog) mv gdP 100 V7 o7_11 (fun e w => Q .ret e w) o7_11.toList [] e e w) := by rw [(by kernel_rfl : c7_9 = .seq (.region 11 o7_11 false) Code.ret), W_seq_reg]; simp only [W_ret, W_skip, W_exit, W_label]
theorem c7_8_s (hw : Cur w) : W Try.prog 100 V7 c7_8 Q e w = (opsW (nx Try.prog) mv gdP 100 V7 o7_10 (fun e w => W Try.prog 100 V7 c7_9 Q e w) o7_10.toList [] e e w) := by rw [(by kernel_rfl : c7_8 = .seq (.region 10 o7_10 false) c7_9), W_seq_reg]
theorem c7_7_s (hw : Cur w) : W Try.prog 100 V7 c7_7 Q e w = (opsW (nx Try.prog) mv gdP 100 V7 o7_9 (fun e w => W Try.prog 100 V7 c7_8 Q e w) o7_9.toList [] e e w) := by rw [(by kernel_rfl : c7_7 = .seq (.region 9 o7_9 false) c7_8), W_seq_reg]
theorem o7_7_eq : opsW N M G 100 V7 o7_7 k o7_7.toList [] e e w =
    (M (e 4) fun t38 =>
    N (xv (xbin BinOp.neq 2 (Operand.tmp 38) (Operand.const (Value.int IntKind.i64 0)) t38 (Value.int IntKind.i64 0))) w fun t39 w =>
    M t39 fun t40 =>
    G (isB t40 false) (fun K => M (e 5) fun v => K v w) (fun t41 w =>
    G (isB t40 false) (fun K => N (xv (xbin BinOp.neq 3 (Operand.tmp 41) (Operand.const (Value.int IntKind.i64 3)) t41 (Value.int IntKind.i64 3))) w K) (fun t42 w =>
    N (xpick t40 (Value.bool true) t42) w fun t43 w =>
    M t43 fun t44 =>
    G (isB t44 false) (fun K => N (xv (Instr.fieldAt 47 (e 6) 0)) w K) (fun t45 w =>
    G (isB t44 false) (fun K => N (xv (Instr.loadAt 2 t45)) w K) (fun t46 w =>
    G (isB t44 false) (fun K => N (xv (xbin BinOp.neq 2 (Operand.tmp 46) (Operand.const (Value.int IntKind.i64 0)) t46 (Value.int IntKind.i64 0))) w K) (fun t47 w =>
    N (xpick t44 (Value.bool true) t47) w fun t48 w =>
    M t48 fun t49 =>
    G (isB t49 false) (fun K => N (xv (Instr.fieldAt 47 (e 6) 1)) w K) (fun t50 w =>
    G (isB t49 false) (fun K => N (xv (Instr.loadAt 30 t50)) w K) (fun t51 w =>
    G (isB t49 false) (fun K => N (builtin Builtin.len #[30] 3 ([false]).toArray ([t51]).toArray) w K) (fun t52 w =>
    G (isB t49 false) (fun K => N (xv (xbin BinOp.neq 3 (Operand.tmp 52) (Operand.const (Value.int IntKind.i64 0)) t52 (Value.int IntKind.i64 0))) w K) (fun t53 w =>
    N (xpick t49 (Value.bool true) t53) w fun t54 w =>
    M t54 fun t55 =>
    G (isB t55 false) (fun K => M (e 7) fun v => K v w) (fun t56 w =>
    G (isB t55 false) (fun K => N (xv (xbin BinOp.neq 3 (Operand.tmp 56) (Operand.const (Value.int IntKind.i64 3)) t56 (Value.int IntKind.i64 3))) w K) (fun t57 w =>
    N (xpick t55 (Value.bool true) t57) w fun t58 w =>
    M t58 fun t59 =>
    G (isB t59 false) (fun K => M (e 8) fun v => K v w) (fun t60 w =>
    G (isB t59 false) (fun K => N (xv (xbin BinOp.neq 2 (Operand.tmp 60) (Operand.const (Value.int IntKind.i64 0)) t60 (Value.int IntKind.i64 0))) w K) (fun t61 w =>
    N (xpick t59 (Value.bool true) t61) w fun t62 w =>
    M t62 fun t63 =>
    G (isB t63 false) (fun K => M (e 9) fun v => K v w) (fun t64 w =>
    N (xpick t63 (Value.bool true) t64) w fun t65 w =>
    M t65 fun t66 =>
    G (isB t66 false) (fun K => M (e 3) fun v => K v w) (fun t67 w =>
    G (isB t66 false) (fun K => N (xcall (Value.func (Fn.func 13) #[] #[]) [t67]) w K) (fun t68 w =>
    G (isB t66 false) (fun K => N (xv (xbin BinOp.neq 2 (Operand.tmp 68) (Operand.const (Value.int IntKind.i64 0)) t68 (Value.int IntKind.i64 0))) w K) (fun t69 w =>
    N (xpick t66 (Value.bool true) t69) w fun t70 w =>
    M t70 fun t71 =>
    G (isB t71 false) (fun K => M (e 3) fun v => K v w) (fun t72 w =>
    G (isB t71 false) (fun K => N (xv (Instr.fieldAt 41 (e 1) 3)) w K) (fun t73 w =>
    G (isB t71 false) (fun K => N (xv (Instr.loadAt 2 t73)) w K) (fun t74 w =>
    G (isB t71 false) (fun K => N (xv (Instr.fieldAt 41 (e 1) 4)) w K) (fun t75 w =>
    G (isB t71 false) (fun K => N (xv (Instr.loadAt 3 t75)) w K) (fun t76 w =>
    G (isB t71 false) (fun K => N (xcall (Value.func (Fn.func 14) #[] #[]) [t72, t74, t76]) w K) (fun t77 w =>
    G (isB t71 false) (fun K => N (builtin Builtin.len #[36] 3 ([false]).toArray ([t77]).toArray) w K) (fun t78 w =>
    G (isB t71 false) (fun K => N (xv (xbin BinOp.neq 3 (Operand.tmp 78) (Operand.const (Value.int IntKind.i64 0)) t78 (Value.int IntKind.i64 0))) w K) (fun t79 w =>
    N (xpick t71 (Value.bool true) t79) w fun t80 w =>
    M t80 fun t81 =>
    G (isB t81 false) (fun K => M (e 3) fun v => K v w) (fun t82 w =>
    G (isB t81 false) (fun K => N (xcall (Value.func (Fn.func 17) #[] #[]) [t82]) w K) (fun t83 w =>
    G (isB t81 false) (fun K => N (xv (xbin BinOp.neq 24 (Operand.tmp 83) (Operand.const (Value.pointer none)) t83 (Value.pointer none))) w K) (fun t84 w =>
    N (xpick t81 (Value.bool true) t84) w fun t85 w =>
    k (Env.p e 85 t85) w) w) w) w) w) w) w) w) w) w) w) w) w) w) w) w) w) w) w) w) w) w) w) w) w) w) w) w) w) := nr (by kernel_rfl)
theorem o7_8_eq : opsW N M G 100 V7 o7_8 k o7_8.toList [] e e w =
    (M (Value.bool false) fun t2 =>
    k (Env.p e 2 t2) w) := nr (by kernel_rfl)
theorem c7_12_s (hw : Cur w) : W Try.prog 100 V7 c7_12 Q e w = (opsW (nx Try.prog) mv gdP 100 V7 o7_8 (fun e w => Q .ret e w) o7_8.toList [] e e w) := by rw [(by kernel_rfl : c7_12 = .seq (.region 8 o7_8 false) Code.ret), W_seq_reg]; simp only [W_ret, W_skip, W_exit, W_label]
theorem c7_11_v : opV V7 (.tmp 85) = true := by kernel_rfl
theorem c7_11_s (hw : Cur w) : W Try.prog 100 V7 c7_11 Q e w = (condP (ev e (.tmp 85)) (W Try.prog 100 V7 c7_12 Q e w) (Q .normal e w)) := by rw [(by kernel_rfl : c7_11 = .cond (.tmp 85) c7_12 Code.skip), W_cond, c7_11_v, cond_true]; simp only [W_ret, W_skip, W_exit, W_label]
theorem c7_10_s (hw : Cur w) : W Try.prog 100 V7 c7_10 Q e w = (opsW (nx Try.prog) mv gdP 100 V7 o7_7 (fun e w => W Try.prog 100 V7 c7_11 Q e w) o7_7.toList [] e e w) := by rw [(by kernel_rfl : c7_10 = .seq (.region 7 o7_7 false) c7_11), W_seq_reg]
theorem c7_6_s (hw : Cur w) : W Try.prog 100 V7 c7_6 Q e w = (W Try.prog 100 V7 c7_10 (seqQ (fun e w => W Try.prog 100 V7 c7_7 Q e w) Q) e w) := by rw [(by kernel_rfl : c7_6 = .seq c7_10 c7_7), W_seq]
theorem c7_5_s (hw : Cur w) : W Try.prog 100 V7 c7_5 Q e w = (opsW (nx Try.prog) mv gdP 100 V7 o7_6 (fun e w => W Try.prog 100 V7 c7_6 Q e w) o7_6.toList [] e e w) := by rw [(by kernel_rfl : c7_5 = .seq (.region 6 o7_6 false) c7_6), W_seq_reg]
theorem c7_4_s (hw : Cur w) : W Try.prog 100 V7 c7_4 Q e w = (opsW (nx Try.prog) mv gdP 100 V7 o7_5 (fun e w => W Try.prog 100 V7 c7_5 Q e w) o7_5.toList [] e e w) := by rw [(by kernel_rfl : c7_4 = .seq (.region 5 o7_5 false) c7_5), W_seq_reg]
theorem c7_3_s (hw : Cur w) : W Try.prog 100 V7 c7_3 Q e w = (opsW (nx Try.prog) mv gdP 100 V7 o7_4 (fun e w => W Try.prog 100 V7 c7_4 Q e w) o7_4.toList [] e e w) := by rw [(by kernel_rfl : c7_3 = .seq (.region 4 o7_4 false) c7_4), W_seq_reg]
theorem c7_2_s (hw : Cur w) : W Try.prog 100 V7 c7_2 Q e w = (opsW (nx Try.prog) mv gdP 100 V7 o7_3 (fun e w => W Try.prog 100 V7 c7_3 Q e w) o7_3.toList [] e e w) := by rw [(by kernel_rfl : c7_2 = .seq (.region 3 o7_3 false) c7_3), W_seq_reg]
theorem o7_1_eq : opsW N M G 100 V7 o7_1 k o7_1.toList [] e e w =
    (N (xcall (Value.func (Fn.func 8) #[] #[]) []) w fun t13 w =>
    N (xv (Op.unary UnOp.not t13)) w fun t14 w =>
    k (Env.p e 14 t14) w) := nr (by kernel_rfl)
theorem o7_2_eq : opsW N M G 100 V7 o7_2 k o7_2.toList [] e e w =
    (M (Value.bool false) fun t2 =>
    k (Env.p e 2 t2) w) := nr (by kernel_rfl)
theorem c7_15_s (hw : Cur w) : W Try.prog 100 V7 c7_15 Q e w = (opsW (nx Try.prog) mv gdP 100 V7 o7_2 (fun e w => Q .ret e w) o7_2.toList [] e e w) := by rw [(by kernel_rfl : c7_15 = .seq (.region 2 o7_2 false) Code.ret), W_seq_reg]; simp only [W_ret, W_skip, W_exit, W_label]
theorem c7_14_v : opV V7 (.tmp 14) = true := by kernel_rfl
theorem c7_14_s (hw : Cur w) : W Try.prog 100 V7 c7_14 Q e w = (condP (ev e (.tmp 14)) (W Try.prog 100 V7 c7_15 Q e w) (Q .normal e w)) := by rw [(by kernel_rfl : c7_14 = .cond (.tmp 14) c7_15 Code.skip), W_cond, c7_14_v, cond_true]; simp only [W_ret, W_skip, W_exit, W_label]
theorem c7_13_s (hw : Cur w) : W Try.prog 100 V7 c7_13 Q e w = (opsW (nx Try.prog) mv gdP 100 V7 o7_1 (fun e w => W Try.prog 100 V7 c7_14 Q e w) o7_1.toList [] e e w) := by rw [(by kernel_rfl : c7_13 = .seq (.region 1 o7_1 false) c7_14), W_seq_reg]
theorem c7_1_s (hw : Cur w) : W Try.prog 100 V7 c7_1 Q e w = (W Try.prog 100 V7 c7_13 (seqQ (fun e w => W Try.prog 100 V7 c7_2 Q e w) Q) e w) := by rw [(by kernel_rfl : c7_1 = .seq c7_13 c7_2), W_seq]
theorem c7_s (hw : Cur w) : W Try.prog 100 V7 c7 Q e w = (opsW (nx Try.prog) mv gdP 100 V7 o7_0 (fun e w => W Try.prog 100 V7 c7_1 Q e w) o7_0.toList [] e e w) := by rw [(by kernel_rfl : c7 = .seq (.region 0 o7_0 false) c7_1), W_seq_reg]
theorem call7 {a0 : Value} {w : World} {R : Value → World → Prop} (h : W Try.prog 100 V7 c7 (retQ Try.prog [.tmp 2] R) (argE [a0]) w) : CallsN Try.prog 7 [a0] w R :=
  callsN_of_W (c := c7) (rs := [.tmp 2]) V7 Try.ntmps7 (by rw [Try.results7]) mixed Try.func7 (by kernel_rfl) (by kernel_rfl) (by kernel_rfl) (by kernel_rfl) (by simp) h
noncomputable def hk7 := And.intro (@o7_0_eq) <| And.intro (@o7_3_eq) <| And.intro (@o7_4_eq) <| And.intro (@o7_5_eq) <| And.intro (@o7_6_eq) <| And.intro (@o7_9_eq) <| And.intro (@o7_10_eq) <| And.intro (@o7_11_eq) <| And.intro (@c7_9_s) <| And.intro (@c7_8_s) <| And.intro (@c7_7_s) <| And.intro (@o7_7_eq) <| And.intro (@o7_8_eq) <| And.intro (@c7_12_s) <| And.intro (@c7_11_s) <| And.intro (@c7_10_s) <| And.intro (@c7_6_s) <| And.intro (@c7_5_s) <| And.intro (@c7_4_s) <| And.intro (@c7_3_s) <| And.intro (@c7_2_s) <| And.intro (@o7_1_eq) <| And.intro (@o7_2_eq) <| And.intro (@c7_15_s) <| And.intro (@c7_14_s) <| And.intro (@c7_13_s) <| And.intro (@c7_1_s) <| @c7_s
-- K7: ↓hk7
end
end Go.Proofs.Ytenokheiindfkab
