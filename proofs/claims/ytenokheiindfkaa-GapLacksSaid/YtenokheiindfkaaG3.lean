/- The equations of the code of some functions, written by the printer gen.py: each is checked by the kernel. -/
import Derived.Test.YtenokheiindfkaaQ0
set_option linter.unusedVariables false
set_option linter.unusedSimpArgs false
set_option maxRecDepth 100000
namespace Go.Proofs.Ytenokheiindfkaa
open Go.VW
noncomputable section
set_option linter.defProp false
variable {N : Sem Next → World → (Value → World → Prop) → Prop} {T : Sem Next → (Value → Prop) → Prop} {M : Value → (Value → Prop) → Prop} {G : Bool → ((Value → World → Prop) → Prop) → (Value → World → Prop) → World → Prop}
  {H : Bool → ((Value → Prop) → Prop) → (Value → Prop) → Prop} {S : World → Prop} {k : Env → World → Prop} {Q : Exit → Env → World → Prop} {e : Env} {w : World}
/-! ### vouch/vouchlaw07.GapNone -/
def V10 : Nat → Bool := fun i => [0, 2, 3, 4, 5, 7].elem i
noncomputable def c10 : Code := (Try.f10.body.getD .skip)
noncomputable def o10_0 : Array Oper := rO (cL c10)
noncomputable def c10_1 : Code := (cR c10)
noncomputable def c10_2 : Code := (cR c10_1)
noncomputable def o10_3 : Array Oper := rO (cL c10_2)
noncomputable def c10_3 : Code := (cR c10_2)
noncomputable def o10_4 : Array Oper := rO (cL c10_3)
noncomputable def c10_4 : Code := (cR c10_3)
noncomputable def o10_5 : Array Oper := rO (cL c10_4)
noncomputable def c10_5 : Code := (cR c10_4)
noncomputable def o10_6 : Array Oper := rO (cL c10_5)
noncomputable def c10_6 : Code := (cL c10_1)
noncomputable def o10_1 : Array Oper := rO (cL c10_6)
noncomputable def c10_7 : Code := (cR c10_6)
noncomputable def c10_8 : Code := (cL c10_7)
noncomputable def o10_2 : Array Oper := rO (cL c10_8)
theorem o10_0_eq : opsW N M G 45 V10 o10_0 k o10_0.toList [] e e w =
    (M (Value.bool false) fun t2 =>
    k (Env.p e 2 t2) w) := nr (by kernel_rfl)
theorem o10_3_eq : opsW N M G 45 V10 o10_3 k o10_3.toList [] e e w =
    (M (Value.pointer none) fun t3 =>
    k (Env.p e 3 t3) w) := nr (by kernel_rfl)
theorem o10_4_eq : opsW N M G 45 V10 o10_4 k o10_4.toList [] e e w =
    (M (e 3) fun t9 =>
    M (e 0) fun t10 =>
    N (xcall (Value.func (Fn.func 31) #[] #[]) [t9, t10, (Value.int IntKind.i64 1)]) w fun t11 w =>
    M t11 fun t8 =>
    N (xv (Instr.extract t8 0)) w fun t12 w =>
    N (xv (Instr.extract t8 1)) w fun t13 w =>
    M t12 fun t4 =>
    M t13 fun t5 =>
    k (Env.p (Env.p e 4 t4) 5 t5) w) := nr (by kernel_rfl)
theorem o10_5_eq : opsW N M G 45 V10 o10_5 k o10_5.toList [] e e w =
    (M (e 3) fun t14 =>
    M (e 0) fun t15 =>
    N (xcall (Value.func (Fn.func 42) #[] #[]) [t14, t15]) w fun t16 w =>
    k e w) := nr (by kernel_rfl)
theorem o10_6_eq : opsW N M G 45 V10 o10_6 k o10_6.toList [] e e w =
    (M (e 4) fun t17 =>
    N (builtin Builtin.len #[68] 3 ([false]).toArray ([t17]).toArray) w fun t18 w =>
    N (xv (xbin BinOp.eql 3 (Operand.tmp 18) (Operand.const (Value.int IntKind.i64 0)) t18 (Value.int IntKind.i64 0))) w fun t19 w =>
    M t19 fun t20 =>
    G (isB t20 true) (fun K => M (e 5) fun v => K v w) (fun t21 w =>
    G (isB t20 true) (fun K => N (xv (Op.unary UnOp.not t21)) w K) (fun t22 w =>
    N (xpick t20 t22 (Value.bool false)) w fun t23 w =>
    M t23 fun t24 =>
    G (isB t24 true) (fun K => M (e 3) fun v => K v w) (fun t25 w =>
    G (isB t24 true) (fun K => N (xcall (Value.func (Fn.func 33) #[] #[]) [t25]) w K) (fun t26 w =>
    G (isB t24 true) (fun K => N (xv (xbin BinOp.eql 2 (Operand.tmp 26) (Operand.const (Value.int IntKind.i64 0)) t26 (Value.int IntKind.i64 0))) w K) (fun t27 w =>
    N (xpick t24 t27 (Value.bool false)) w fun t28 w =>
    M t28 fun t29 =>
    G (isB t29 true) (fun K => M (e 3) fun v => K v w) (fun t30 w =>
    G (isB t29 true) (fun K => N (xcall (Value.func (Fn.func 32) #[] #[]) [t30]) w K) (fun t31 w =>
    G (isB t29 true) (fun K => N (builtin Builtin.len #[71] 3 ([false]).toArray ([t31]).toArray) w K) (fun t32 w =>
    G (isB t29 true) (fun K => N (xv (xbin BinOp.eql 3 (Operand.tmp 32) (Operand.const (Value.int IntKind.i64 0)) t32 (Value.int IntKind.i64 0))) w K) (fun t33 w =>
    N (xpick t29 t33 (Value.bool false)) w fun t34 w =>
    M t34 fun t35 =>
    G (isB t35 true) (fun K => M (e 3) fun v => K v w) (fun t36 w =>
    G (isB t35 true) (fun K => N (xcall (Value.func (Fn.func 43) #[] #[]) [t36]) w K) (fun t37 w =>
    G (isB t35 true) (fun K => N (xcall (Value.func (Fn.func 44) #[] #[]) [t37]) w K) (fun t38 w =>
    N (xpick t35 t38 (Value.bool false)) w fun t39 w =>
    M t39 fun t40 =>
    G (isB t40 true) (fun K => M (e 3) fun v => K v w) (fun t41 w =>
    G (isB t40 true) (fun K => N (xcall (Value.func (Fn.func 45) #[] #[]) [t41]) w K) (fun t42 w =>
    G (isB t40 true) (fun K => N (xv (xbin BinOp.eql 65 (Operand.tmp 42) (Operand.const (Value.pointer none)) t42 (Value.pointer none))) w K) (fun t43 w =>
    N (xpick t40 t43 (Value.bool false)) w fun t44 w =>
    M t44 fun t2 =>
    k (Env.p e 2 t2) w) w) w) w) w) w) w) w) w) w) w) w) w) w) w) w) := nr (by kernel_rfl)
theorem c10_5_s (hw : Cur w) : W Try.prog 45 V10 c10_5 Q e w = (opsW (nx Try.prog) mv gdP 45 V10 o10_6 (fun e w => Q .ret e w) o10_6.toList [] e e w) := by rw [(by kernel_rfl : c10_5 = .seq (.region 6 o10_6 false) Code.ret), W_seq_reg]; simp only [W_ret, W_skip, W_exit, W_label]
theorem c10_4_s (hw : Cur w) : W Try.prog 45 V10 c10_4 Q e w = (opsW (nx Try.prog) mv gdP 45 V10 o10_5 (fun e w => W Try.prog 45 V10 c10_5 Q e w) o10_5.toList [] e e w) := by rw [(by kernel_rfl : c10_4 = .seq (.region 5 o10_5 false) c10_5), W_seq_reg]
theorem c10_3_s (hw : Cur w) : W Try.prog 45 V10 c10_3 Q e w = (opsW (nx Try.prog) mv gdP 45 V10 o10_4 (fun e w => W Try.prog 45 V10 c10_4 Q e w) o10_4.toList [] e e w) := by rw [(by kernel_rfl : c10_3 = .seq (.region 4 o10_4 false) c10_4), W_seq_reg]
theorem c10_2_s (hw : Cur w) : W Try.prog 45 V10 c10_2 Q e w = (opsW (nx Try.prog) mv gdP 45 V10 o10_3 (fun e w => W Try.prog 45 V10 c10_3 Q e w) o10_3.toList [] e e w) := by rw [(by kernel_rfl : c10_2 = .seq (.region 3 o10_3 false) c10_3), W_seq_reg]
theorem o10_1_eq : opsW N M G 45 V10 o10_1 k o10_1.toList [] e e w =
    (N (xcall (Value.func (Fn.func 25) #[] #[]) []) w fun t6 w =>
    N (xv (Op.unary UnOp.not t6)) w fun t7 w =>
    k (Env.p e 7 t7) w) := nr (by kernel_rfl)
theorem o10_2_eq : opsW N M G 45 V10 o10_2 k o10_2.toList [] e e w =
    (M (Value.bool false) fun t2 =>
    k (Env.p e 2 t2) w) := nr (by kernel_rfl)
theorem c10_8_s (hw : Cur w) : W Try.prog 45 V10 c10_8 Q e w = (opsW (nx Try.prog) mv gdP 45 V10 o10_2 (fun e w => Q .ret e w) o10_2.toList [] e e w) := by rw [(by kernel_rfl : c10_8 = .seq (.region 2 o10_2 false) Code.ret), W_seq_reg]; simp only [W_ret, W_skip, W_exit, W_label]
theorem c10_7_v : opV V10 (.tmp 7) = true := by kernel_rfl
theorem c10_7_s (hw : Cur w) : W Try.prog 45 V10 c10_7 Q e w = (condP (ev e (.tmp 7)) (W Try.prog 45 V10 c10_8 Q e w) (Q .normal e w)) := by rw [(by kernel_rfl : c10_7 = .cond (.tmp 7) c10_8 Code.skip), W_cond, c10_7_v, cond_true]; simp only [W_ret, W_skip, W_exit, W_label]
theorem c10_6_s (hw : Cur w) : W Try.prog 45 V10 c10_6 Q e w = (opsW (nx Try.prog) mv gdP 45 V10 o10_1 (fun e w => W Try.prog 45 V10 c10_7 Q e w) o10_1.toList [] e e w) := by rw [(by kernel_rfl : c10_6 = .seq (.region 1 o10_1 false) c10_7), W_seq_reg]
theorem c10_1_s (hw : Cur w) : W Try.prog 45 V10 c10_1 Q e w = (W Try.prog 45 V10 c10_6 (seqQ (fun e w => W Try.prog 45 V10 c10_2 Q e w) Q) e w) := by rw [(by kernel_rfl : c10_1 = .seq c10_6 c10_2), W_seq]
theorem c10_s (hw : Cur w) : W Try.prog 45 V10 c10 Q e w = (opsW (nx Try.prog) mv gdP 45 V10 o10_0 (fun e w => W Try.prog 45 V10 c10_1 Q e w) o10_0.toList [] e e w) := by rw [(by kernel_rfl : c10 = .seq (.region 0 o10_0 false) c10_1), W_seq_reg]
theorem call10 {a0 : Value} {w : World} {R : Value → World → Prop} (h : W Try.prog 45 V10 c10 (retQ Try.prog [.tmp 2] R) (argE [a0]) w) : CallsN Try.prog 10 [a0] w R :=
  callsN_of_W (c := c10) (rs := [.tmp 2]) V10 Try.ntmps10 (by rw [Try.results10]) mixed Try.func10 (by kernel_rfl) (by kernel_rfl) (by kernel_rfl) (by kernel_rfl) (by simp) h
noncomputable def hk10 := And.intro (@o10_0_eq) <| And.intro (@o10_3_eq) <| And.intro (@o10_4_eq) <| And.intro (@o10_5_eq) <| And.intro (@o10_6_eq) <| And.intro (@c10_5_s) <| And.intro (@c10_4_s) <| And.intro (@c10_3_s) <| And.intro (@c10_2_s) <| And.intro (@o10_1_eq) <| And.intro (@o10_2_eq) <| And.intro (@c10_8_s) <| And.intro (@c10_7_s) <| And.intro (@c10_6_s) <| And.intro (@c10_1_s) <| @c10_s
-- K10: ↓hk10
/-! ### vouch/vouchlaw07.GapOrder -/
def V7 : Nat → Bool := fun i => [0, 1, 4, 5, 6, 7, 8, 9, 10, 11, 12, 14, 19, 23, 41, 70, 109, 133].elem i
noncomputable def c7 : Code := (Try.f7.body.getD .skip)
noncomputable def o7_0 : Array Oper := rO (cL c7)
noncomputable def c7_1 : Code := (cR c7)
noncomputable def c7_2 : Code := (cR c7_1)
noncomputable def o7_3 : Array Oper := rO (cL c7_2)
noncomputable def c7_3 : Code := (cR c7_2)
noncomputable def c7_4 : Code := (cR c7_3)
noncomputable def o7_6 : Array Oper := rO (cL c7_4)
noncomputable def c7_5 : Code := (cR c7_4)
noncomputable def c7_6 : Code := (cR c7_5)
noncomputable def o7_23 : Array Oper := rO (cL c7_6)
noncomputable def c7_7 : Code := (cL c7_5)
noncomputable def o7_7 : Array Oper := rO (cL c7_7)
noncomputable def c7_8 : Code := (cR c7_7)
noncomputable def c7_9 : Code := (cL c7_8)
noncomputable def c7_10 : Code := (cL c7_9)
noncomputable def c7_11 : Code := (cR c7_10)
noncomputable def c7_12 : Code := (cR c7_11)
noncomputable def o7_9 : Array Oper := rO c7_12
noncomputable def c7_13 : Code := (cL c7_11)
noncomputable def c7_14 : Code := (cL c7_13)
noncomputable def o7_10 : Array Oper := rO (cL c7_14)
noncomputable def c7_15 : Code := (cR c7_14)
noncomputable def o7_11 : Array Oper := rO (cL c7_15)
noncomputable def c7_16 : Code := (cR c7_15)
noncomputable def c7_17 : Code := (cR c7_16)
noncomputable def o7_18 : Array Oper := rO (cL c7_17)
noncomputable def c7_18 : Code := (cR c7_17)
noncomputable def c7_19 : Code := (cR c7_18)
noncomputable def o7_21 : Array Oper := rO (cL c7_19)
noncomputable def c7_20 : Code := (cR c7_19)
noncomputable def c7_21 : Code := (cL c7_20)
noncomputable def o7_22 : Array Oper := rO (cL c7_21)
noncomputable def c7_22 : Code := (cL c7_18)
noncomputable def o7_19 : Array Oper := rO (cL c7_22)
noncomputable def c7_23 : Code := (cR c7_22)
noncomputable def c7_24 : Code := (cL c7_23)
noncomputable def o7_20 : Array Oper := rO (cL c7_24)
noncomputable def c7_25 : Code := (cL c7_16)
noncomputable def o7_12 : Array Oper := rO (cL c7_25)
noncomputable def c7_26 : Code := (cR c7_25)
noncomputable def c7_27 : Code := (cL c7_26)
noncomputable def c7_28 : Code := (cL c7_27)
noncomputable def c7_29 : Code := (cR c7_28)
noncomputable def c7_30 : Code := (cR c7_29)
noncomputable def o7_14 : Array Oper := rO c7_30
noncomputable def c7_31 : Code := (cL c7_29)
noncomputable def c7_32 : Code := (cL c7_31)
noncomputable def o7_15 : Array Oper := rO (cL c7_32)
noncomputable def c7_33 : Code := (cR c7_32)
noncomputable def o7_16 : Array Oper := rO (cL c7_33)
noncomputable def c7_34 : Code := (cR c7_33)
noncomputable def c7_35 : Code := (cL c7_34)
noncomputable def o7_17 : Array Oper := rO (cL c7_35)
noncomputable def c7_36 : Code := (cL c7_28)
noncomputable def o7_13 : Array Oper := rO (cL c7_36)
noncomputable def c7_37 : Code := (cR c7_36)
noncomputable def c7_38 : Code := (cL c7_10)
noncomputable def o7_8 : Array Oper := rO (cL c7_38)
noncomputable def c7_39 : Code := (cR c7_38)
noncomputable def c7_40 : Code := (cL c7_3)
noncomputable def o7_4 : Array Oper := rO (cL c7_40)
noncomputable def c7_41 : Code := (cR c7_40)
noncomputable def c7_42 : Code := (cL c7_41)
noncomputable def o7_5 : Array Oper := rO (cL c7_42)
noncomputable def c7_43 : Code := (cL c7_1)
noncomputable def o7_1 : Array Oper := rO (cL c7_43)
noncomputable def c7_44 : Code := (cR c7_43)
noncomputable def c7_45 : Code := (cL c7_44)
noncomputable def o7_2 : Array Oper := rO (cL c7_45)
theorem o7_0_eq : opsW N M G 134 V7 o7_0 k o7_0.toList [] e e w =
    (M (Value.bool false) fun t4 =>
    k (Env.p e 4 t4) w) := nr (by kernel_rfl)
theorem o7_3_eq : opsW N M G 134 V7 o7_3 k o7_3.toList [] e e w =
    (M (e 0) fun t15 =>
    N (xv (convert 5 3 t15)) w fun t16 w =>
    N (xcall (Value.func (Fn.func 30) #[] #[]) [(Value.int IntKind.i64 10), t16]) w fun t17 w =>
    M t17 fun t5 =>
    k (Env.p e 5 t5) w) := nr (by kernel_rfl)
theorem o7_6_eq : opsW N M G 134 V7 o7_6 k o7_6.toList [] e e w =
    (M (Value.int IntKind.i64 10) fun t6 =>
    k (Env.p e 6 t6) w) := nr (by kernel_rfl)
theorem o7_23_eq : opsW N M G 134 V7 o7_23 k o7_23.toList [] e e w =
    (M (Value.bool true) fun t4 =>
    k (Env.p e 4 t4) w) := nr (by kernel_rfl)
theorem c7_6_s (hw : Cur w) : W Try.prog 134 V7 c7_6 Q e w = (opsW (nx Try.prog) mv gdP 134 V7 o7_23 (fun e w => Q .ret e w) o7_23.toList [] e e w) := by rw [(by kernel_rfl : c7_6 = .seq (.region 23 o7_23 false) Code.ret), W_seq_reg]; simp only [W_ret, W_skip, W_exit, W_label]
theorem o7_7_eq : opsW N M G 134 V7 o7_7 k o7_7.toList [] e e w =
    (M (Value.int IntKind.i64 0) fun t7 =>
    k (Env.p e 7 t7) w) := nr (by kernel_rfl)
theorem o7_9_eq : opsW N M G 134 V7 o7_9 k o7_9.toList [] e e w =
    (M (e 7) fun t24 =>
    N (xv (xbin BinOp.add 3 (Operand.tmp 24) (Operand.const (Value.int IntKind.i64 1)) t24 (Value.int IntKind.i64 1))) w fun t25 w =>
    M t25 fun t7 =>
    k (Env.p e 7 t7) w) := nr (by kernel_rfl)
theorem c7_12_s (hw : Cur w) : W Try.prog 134 V7 c7_12 Q e w = (opsW (nx Try.prog) mv gdP 134 V7 o7_9 (fun e w => Q .normal e w) o7_9.toList [] e e w) := by rw [(by kernel_rfl : c7_12 = (.region 9 o7_9 false)), W_reg]
theorem o7_10_eq : opsW N M G 134 V7 o7_10 k o7_10.toList [] e e w =
    (M (e 1) fun t26 =>
    M (e 7) fun t27 =>
    N (xv (Instr.indexAt 64 t26 t27)) w fun t28 w =>
    N (xv (Instr.loadAt 67 t28)) w fun t29 w =>
    N (xv (convert 67 2 t29)) w fun t30 w =>
    M t30 fun t8 =>
    k (Env.p e 8 t8) w) := nr (by kernel_rfl)
theorem o7_11_eq : opsW N M G 134 V7 o7_11 k o7_11.toList [] e e w =
    (M (e 5) fun t32 =>
    M (e 8) fun t33 =>
    M (e 7) fun t34 =>
    N (xcall (Value.func (Fn.func 31) #[] #[]) [t32, t33, t34]) w fun t35 w =>
    M t35 fun t31 =>
    N (xv (Instr.extract t31 0)) w fun t36 w =>
    N (xv (Instr.extract t31 1)) w fun t37 w =>
    M t36 fun t9 =>
    M t37 fun t10 =>
    k (Env.p (Env.p e 9 t9) 10 t10) w) := nr (by kernel_rfl)
theorem o7_18_eq : opsW N M G 134 V7 o7_18 k o7_18.toList [] e e w =
    (M (e 5) fun t71 =>
    N (xcall (Value.func (Fn.func 32) #[] #[]) [t71]) w fun t72 w =>
    M t72 fun t12 =>
    k (Env.p e 12 t12) w) := nr (by kernel_rfl)
theorem o7_21_eq : opsW N M G 134 V7 o7_21 k o7_21.toList [] e e w =
    (M (e 8) fun t110 =>
    M (e 6) fun t111 =>
    N (xv (xbin BinOp.add 2 (Operand.tmp 111) (Operand.const (Value.int IntKind.i64 1)) t111 (Value.int IntKind.i64 1))) w fun t112 w =>
    N (xv (xbin BinOp.eql 2 (Operand.tmp 110) (Operand.tmp 112) t110 t112)) w fun t113 w =>
    M t113 fun t114 =>
    G (isB t114 false) (fun K => M (e 9) fun v => K v w) (fun t115 w =>
    G (isB t114 false) (fun K => N (builtin Builtin.len #[68] 3 ([false]).toArray ([t115]).toArray) w K) (fun t116 w =>
    G (isB t114 false) (fun K => N (xv (xbin BinOp.eql 3 (Operand.tmp 116) (Operand.const (Value.int IntKind.i64 0)) t116 (Value.int IntKind.i64 0))) w K) (fun t117 w =>
    G (isB t114 false) (fun K => M t117 fun v => K v w) (fun t118 w =>
    G (isB t118 true) (fun K => M (e 8) fun v => K v w) (fun t119 w =>
    G (isB t118 true) (fun K => M (e 6) fun v => K v w) (fun t120 w =>
    G (isB t118 true) (fun K => N (xv (xbin BinOp.gtr 2 (Operand.tmp 119) (Operand.tmp 120) t119 t120)) w K) (fun t121 w =>
    G (isB t114 false) (fun K => N (xpick t118 t121 (Value.bool false)) w K) (fun t122 w =>
    G (isB t114 false) (fun K => M t122 fun v => K v w) (fun t123 w =>
    G (isB t123 true) (fun K => M (e 10) fun v => K v w) (fun t124 w =>
    G (isB t123 true) (fun K => N (xv (Op.unary UnOp.not t124)) w K) (fun t125 w =>
    G (isB t114 false) (fun K => N (xpick t123 t125 (Value.bool false)) w K) (fun t126 w =>
    G (isB t114 false) (fun K => M t126 fun v => K v w) (fun t127 w =>
    G (isB t127 true) (fun K => M (e 12) fun v => K v w) (fun t128 w =>
    G (isB t127 true) (fun K => M (e 8) fun v => K v w) (fun t129 w =>
    G (isB t127 true) (fun K => N (xcall (Value.func (Fn.func 34) #[] #[]) [t128, t129]) w K) (fun t130 w =>
    G (isB t127 true) (fun K => N (xv (Op.unary UnOp.not t130)) w K) (fun t131 w =>
    G (isB t114 false) (fun K => N (xpick t127 t131 (Value.bool false)) w K) (fun t132 w =>
    N (xpick t114 (Value.bool true) t132) w fun t133 w =>
    k (Env.p e 133 t133) w) w) w) w) w) w) w) w) w) w) w) w) w) w) w) w) w) w) w) := nr (by kernel_rfl)
theorem o7_22_eq : opsW N M G 134 V7 o7_22 k o7_22.toList [] e e w =
    (M (Value.bool false) fun t4 =>
    k (Env.p e 4 t4) w) := nr (by kernel_rfl)
theorem c7_21_s (hw : Cur w) : W Try.prog 134 V7 c7_21 Q e w = (opsW (nx Try.prog) mv gdP 134 V7 o7_22 (fun e w => Q .ret e w) o7_22.toList [] e e w) := by rw [(by kernel_rfl : c7_21 = .seq (.region 22 o7_22 false) Code.ret), W_seq_reg]; simp only [W_ret, W_skip, W_exit, W_label]
theorem c7_20_v : opV V7 (.tmp 133) = true := by kernel_rfl
theorem c7_20_s (hw : Cur w) : W Try.prog 134 V7 c7_20 Q e w = (condP (ev e (.tmp 133)) (W Try.prog 134 V7 c7_21 Q e w) (Q .normal e w)) := by rw [(by kernel_rfl : c7_20 = .cond (.tmp 133) c7_21 Code.skip), W_cond, c7_20_v, cond_true]; simp only [W_ret, W_skip, W_exit, W_label]
theorem c7_19_s (hw : Cur w) : W Try.prog 134 V7 c7_19 Q e w = (opsW (nx Try.prog) mv gdP 134 V7 o7_21 (fun e w => W Try.prog 134 V7 c7_20 Q e w) o7_21.toList [] e e w) := by rw [(by kernel_rfl : c7_19 = .seq (.region 21 o7_21 false) c7_20), W_seq_reg]
theorem o7_19_eq : opsW N M G 134 V7 o7_19 k o7_19.toList [] e e w =
    (M (e 5) fun t73 =>
    N (xcall (Value.func (Fn.func 33) #[] #[]) [t73]) w fun t74 w =>
    M (e 6) fun t75 =>
    N (xv (xbin BinOp.neq 2 (Operand.tmp 74) (Operand.tmp 75) t74 t75)) w fun t76 w =>
    M t76 fun t77 =>
    G (isB t77 false) (fun K => M (e 12) fun v => K v w) (fun t78 w =>
    G (isB t77 false) (fun K => N (builtin Builtin.len #[71] 3 ([false]).toArray ([t78]).toArray) w K) (fun t79 w =>
    G (isB t77 false) (fun K => M (e 0) fun v => K v w) (fun t80 w =>
    G (isB t77 false) (fun K => N (xv (convert 5 3 t80)) w K) (fun t81 w =>
    G (isB t77 false) (fun K => N (xv (xbin BinOp.gtr 3 (Operand.tmp 79) (Operand.tmp 81) t79 t81)) w K) (fun t82 w =>
    N (xpick t77 (Value.bool true) t82) w fun t83 w =>
    M t83 fun t84 =>
    G (isB t84 false) (fun K => M (e 10) fun v => K v w) (fun t85 w =>
    G (isB t84 false) (fun K => M t85 fun v => K v w) (fun t86 w =>
    G (isB t86 true) (fun K => M (e 9) fun v => K v w) (fun t87 w =>
    G (isB t86 true) (fun K => N (builtin Builtin.len #[68] 3 ([false]).toArray ([t87]).toArray) w K) (fun t88 w =>
    G (isB t86 true) (fun K => N (xv (xbin BinOp.gtr 3 (Operand.tmp 88) (Operand.const (Value.int IntKind.i64 0)) t88 (Value.int IntKind.i64 0))) w K) (fun t89 w =>
    G (isB t86 true) (fun K => M t89 fun v => K v w) (fun t90 w =>
    G (isB t90 false) (fun K => M (e 12) fun v => K v w) (fun t91 w =>
    G (isB t90 false) (fun K => N (builtin Builtin.len #[71] 3 ([false]).toArray ([t91]).toArray) w K) (fun t92 w =>
    G (isB t90 false) (fun K => N (xv (xbin BinOp.gtr 3 (Operand.tmp 92) (Operand.const (Value.int IntKind.i64 0)) t92 (Value.int IntKind.i64 0))) w K) (fun t93 w =>
    G (isB t86 true) (fun K => N (xpick t90 (Value.bool true) t93) w K) (fun t94 w =>
    G (isB t84 false) (fun K => N (xpick t86 t94 (Value.bool false)) w K) (fun t95 w =>
    N (xpick t84 (Value.bool true) t95) w fun t96 w =>
    M t96 fun t97 =>
    G (isB t97 false) (fun K => M (e 12) fun v => K v w) (fun t98 w =>
    G (isB t97 false) (fun K => N (builtin Builtin.len #[71] 3 ([false]).toArray ([t98]).toArray) w K) (fun t99 w =>
    G (isB t97 false) (fun K => N (xv (xbin BinOp.gtr 3 (Operand.tmp 99) (Operand.const (Value.int IntKind.i64 0)) t99 (Value.int IntKind.i64 0))) w K) (fun t100 w =>
    G (isB t97 false) (fun K => M t100 fun v => K v w) (fun t101 w =>
    G (isB t101 true) (fun K => M (e 12) fun v => K v w) (fun t102 w =>
    G (isB t101 true) (fun K => N (xv (Instr.indexAt 71 t102 (Value.int IntKind.i64 0))) w K) (fun t103 w =>
    G (isB t101 true) (fun K => N (xv (Instr.loadAt 2 t103)) w K) (fun t104 w =>
    G (isB t101 true) (fun K => M (e 6) fun v => K v w) (fun t105 w =>
    G (isB t101 true) (fun K => N (xv (xbin BinOp.add 2 (Operand.tmp 105) (Operand.const (Value.int IntKind.i64 1)) t105 (Value.int IntKind.i64 1))) w K) (fun t106 w =>
    G (isB t101 true) (fun K => N (xv (xbin BinOp.leq 2 (Operand.tmp 104) (Operand.tmp 106) t104 t106)) w K) (fun t107 w =>
    G (isB t97 false) (fun K => N (xpick t101 t107 (Value.bool false)) w K) (fun t108 w =>
    N (xpick t97 (Value.bool true) t108) w fun t109 w =>
    k (Env.p e 109 t109) w) w) w) w) w) w) w) w) w) w) w) w) w) w) w) w) w) w) w) w) w) w) w) w) w) w) w) w) := nr (by kernel_rfl)
theorem o7_20_eq : opsW N M G 134 V7 o7_20 k o7_20.toList [] e e w =
    (M (Value.bool false) fun t4 =>
    k (Env.p e 4 t4) w) := nr (by kernel_rfl)
theorem c7_24_s (hw : Cur w) : W Try.prog 134 V7 c7_24 Q e w = (opsW (nx Try.prog) mv gdP 134 V7 o7_20 (fun e w => Q .ret e w) o7_20.toList [] e e w) := by rw [(by kernel_rfl : c7_24 = .seq (.region 20 o7_20 false) Code.ret), W_seq_reg]; simp only [W_ret, W_skip, W_exit, W_label]
theorem c7_23_v : opV V7 (.tmp 109) = true := by kernel_rfl
theorem c7_23_s (hw : Cur w) : W Try.prog 134 V7 c7_23 Q e w = (condP (ev e (.tmp 109)) (W Try.prog 134 V7 c7_24 Q e w) (Q .normal e w)) := by rw [(by kernel_rfl : c7_23 = .cond (.tmp 109) c7_24 Code.skip), W_cond, c7_23_v, cond_true]; simp only [W_ret, W_skip, W_exit, W_label]
theorem c7_22_s (hw : Cur w) : W Try.prog 134 V7 c7_22 Q e w = (opsW (nx Try.prog) mv gdP 134 V7 o7_19 (fun e w => W Try.prog 134 V7 c7_23 Q e w) o7_19.toList [] e e w) := by rw [(by kernel_rfl : c7_22 = .seq (.region 19 o7_19 false) c7_23), W_seq_reg]
theorem c7_18_s (hw : Cur w) : W Try.prog 134 V7 c7_18 Q e w = (W Try.prog 134 V7 c7_22 (seqQ (fun e w => W Try.prog 134 V7 c7_19 Q e w) Q) e w) := by rw [(by kernel_rfl : c7_18 = .seq c7_22 c7_19), W_seq]
theorem c7_17_s (hw : Cur w) : W Try.prog 134 V7 c7_17 Q e w = (opsW (nx Try.prog) mv gdP 134 V7 o7_18 (fun e w => W Try.prog 134 V7 c7_18 Q e w) o7_18.toList [] e e w) := by rw [(by kernel_rfl : c7_17 = .seq (.region 18 o7_18 false) c7_18), W_seq_reg]
theorem o7_12_eq : opsW N M G 134 V7 o7_12 k o7_12.toList [] e e w =
    (M (Value.int IntKind.i64 0) fun t11 =>
    k (Env.p e 11 t11) w) := nr (by kernel_rfl)
theorem o7_14_eq : opsW N M G 134 V7 o7_14 k o7_14.toList [] e e w =
    (M (e 11) fun t42 =>
    N (xv (xbin BinOp.add 3 (Operand.tmp 42) (Operand.const (Value.int IntKind.i64 1)) t42 (Value.int IntKind.i64 1))) w fun t43 w =>
    M t43 fun t11 =>
    k (Env.p e 11 t11) w) := nr (by kernel_rfl)
theorem c7_30_s (hw : Cur w) : W Try.prog 134 V7 c7_30 Q e w = (opsW (nx Try.prog) mv gdP 134 V7 o7_14 (fun e w => Q .normal e w) o7_14.toList [] e e w) := by rw [(by kernel_rfl : c7_30 = (.region 14 o7_14 false)), W_reg]
theorem o7_15_eq : opsW N M G 134 V7 o7_15 k o7_15.toList [] e e w =
    (M (e 6) fun t44 =>
    N (xv (xbin BinOp.add 2 (Operand.tmp 44) (Operand.const (Value.int IntKind.i64 1)) t44 (Value.int IntKind.i64 1))) w fun t45 w =>
    M t45 fun t6 =>
    k (Env.p e 6 t6) w) := nr (by kernel_rfl)
theorem o7_16_eq : opsW N M G 134 V7 o7_16 k o7_16.toList [] e e w =
    (M (e 9) fun t46 =>
    M (e 11) fun t47 =>
    N (xv (Instr.indexAt 68 t46 t47)) w fun t48 w =>
    N (xv (Instr.loadAt 3 t48)) w fun t49 w =>
    N (xv (xbin BinOp.lss 3 (Operand.tmp 49) (Operand.const (Value.int IntKind.i64 0)) t49 (Value.int IntKind.i64 0))) w fun t50 w =>
    M t50 fun t51 =>
    G (isB t51 false) (fun K => M (e 9) fun v => K v w) (fun t52 w =>
    G (isB t51 false) (fun K => M (e 11) fun v => K v w) (fun t53 w =>
    G (isB t51 false) (fun K => N (xv (Instr.indexAt 68 t52 t53)) w K) (fun t54 w =>
    G (isB t51 false) (fun K => N (xv (Instr.loadAt 3 t54)) w K) (fun t55 w =>
    G (isB t51 false) (fun K => M (e 7) fun v => K v w) (fun t56 w =>
    G (isB t51 false) (fun K => N (xv (xbin BinOp.gtr 3 (Operand.tmp 55) (Operand.tmp 56) t55 t56)) w K) (fun t57 w =>
    N (xpick t51 (Value.bool true) t57) w fun t58 w =>
    M t58 fun t59 =>
    G (isB t59 false) (fun K => M (e 1) fun v => K v w) (fun t60 w =>
    G (isB t59 false) (fun K => M (e 9) fun v => K v w) (fun t61 w =>
    G (isB t59 false) (fun K => M (e 11) fun v => K v w) (fun t62 w =>
    G (isB t59 false) (fun K => N (xv (Instr.indexAt 68 t61 t62)) w K) (fun t63 w =>
    G (isB t59 false) (fun K => N (xv (Instr.loadAt 3 t63)) w K) (fun t64 w =>
    G (isB t59 false) (fun K => N (xv (Instr.indexAt 64 t60 t64)) w K) (fun t65 w =>
    G (isB t59 false) (fun K => N (xv (Instr.loadAt 67 t65)) w K) (fun t66 w =>
    G (isB t59 false) (fun K => N (xv (convert 67 2 t66)) w K) (fun t67 w =>
    G (isB t59 false) (fun K => M (e 6) fun v => K v w) (fun t68 w =>
    G (isB t59 false) (fun K => N (xv (xbin BinOp.neq 2 (Operand.tmp 67) (Operand.tmp 68) t67 t68)) w K) (fun t69 w =>
    N (xpick t59 (Value.bool true) t69) w fun t70 w =>
    k (Env.p e 70 t70) w) w) w) w) w) w) w) w) w) w) w) w) w) w) w) w) w) := nr (by kernel_rfl)
theorem o7_17_eq : opsW N M G 134 V7 o7_17 k o7_17.toList [] e e w =
    (M (Value.bool false) fun t4 =>
    k (Env.p e 4 t4) w) := nr (by kernel_rfl)
theorem c7_35_s (hw : Cur w) : W Try.prog 134 V7 c7_35 Q e w = (opsW (nx Try.prog) mv gdP 134 V7 o7_17 (fun e w => Q .ret e w) o7_17.toList [] e e w) := by rw [(by kernel_rfl : c7_35 = .seq (.region 17 o7_17 false) Code.ret), W_seq_reg]; simp only [W_ret, W_skip, W_exit, W_label]
theorem c7_34_v : opV V7 (.tmp 70) = true := by kernel_rfl
theorem c7_34_s (hw : Cur w) : W Try.prog 134 V7 c7_34 Q e w = (condP (ev e (.tmp 70)) (W Try.prog 134 V7 c7_35 Q e w) (Q .normal e w)) := by rw [(by kernel_rfl : c7_34 = .cond (.tmp 70) c7_35 Code.skip), W_cond, c7_34_v, cond_true]; simp only [W_ret, W_skip, W_exit, W_label]
theorem c7_33_s (hw : Cur w) : W Try.prog 134 V7 c7_33 Q e w = (opsW (nx Try.prog) mv gdP 134 V7 o7_16 (fun e w => W Try.prog 134 V7 c7_34 Q e w) o7_16.toList [] e e w) := by rw [(by kernel_rfl : c7_33 = .seq (.region 16 o7_16 false) c7_34), W_seq_reg]
theorem c7_32_s (hw : Cur w) : W Try.prog 134 V7 c7_32 Q e w = (opsW (nx Try.prog) mv gdP 134 V7 o7_15 (fun e w => W Try.prog 134 V7 c7_33 Q e w) o7_15.toList [] e e w) := by rw [(by kernel_rfl : c7_32 = .seq (.region 15 o7_15 false) c7_33), W_seq_reg]
theorem c7_31_s (hw : Cur w) : W Try.prog 134 V7 c7_31 Q e w = (W Try.prog 134 V7 c7_32 (blockQ 3 Q) e w) := by rw [(by kernel_rfl : c7_31 = .block 3 c7_32), W_block]
theorem c7_29_s (hw : Cur w) : W Try.prog 134 V7 c7_29 Q e w = (W Try.prog 134 V7 c7_31 (seqQ (fun e w => W Try.prog 134 V7 c7_30 Q e w) Q) e w) := by rw [(by kernel_rfl : c7_29 = .seq c7_31 c7_30), W_seq]
theorem o7_13_eq : opsW N M G 134 V7 o7_13 k o7_13.toList [] e e w =
    (M (e 11) fun t38 =>
    M (e 9) fun t39 =>
    N (builtin Builtin.len #[68] 3 ([false]).toArray ([t39]).toArray) w fun t40 w =>
    N (xv (xbin BinOp.lss 3 (Operand.tmp 38) (Operand.tmp 40) t38 t40)) w fun t41 w =>
    k (Env.p e 41 t41) w) := nr (by kernel_rfl)
theorem c7_37_v : opV V7 (.tmp 41) = true := by kernel_rfl
theorem c7_37_s (hw : Cur w) : W Try.prog 134 V7 c7_37 Q e w = (condP (ev e (.tmp 41)) (Q .normal e w) (Q (.exit 2) e w)) := by rw [(by kernel_rfl : c7_37 = .cond (.tmp 41) Code.skip (Code.exit 2)), W_cond, c7_37_v, cond_true]; simp only [W_ret, W_skip, W_exit, W_label]
theorem c7_36_s (hw : Cur w) : W Try.prog 134 V7 c7_36 Q e w = (opsW (nx Try.prog) mv gdP 134 V7 o7_13 (fun e w => W Try.prog 134 V7 c7_37 Q e w) o7_13.toList [] e e w) := by rw [(by kernel_rfl : c7_36 = .seq (.region 13 o7_13 false) c7_37), W_seq_reg]
theorem c7_28_s (hw : Cur w) : W Try.prog 134 V7 c7_28 Q e w = (W Try.prog 134 V7 c7_36 (seqQ (fun e w => W Try.prog 134 V7 c7_29 Q e w) Q) e w) := by rw [(by kernel_rfl : c7_28 = .seq c7_36 c7_29), W_seq]
theorem c7_27_s (hw : Cur w) : W Try.prog 134 V7 c7_27 Q e w = (LoopP (fun e w k => W Try.prog 134 V7 c7_28 (seqQ k Q) e w) e w) := by rw [(by kernel_rfl : c7_27 = .loop c7_28), W_loop]
theorem c7_26_s (hw : Cur w) : W Try.prog 134 V7 c7_26 Q e w = (W Try.prog 134 V7 c7_27 (blockQ 2 Q) e w) := by rw [(by kernel_rfl : c7_26 = .block 2 c7_27), W_block]
theorem c7_25_s (hw : Cur w) : W Try.prog 134 V7 c7_25 Q e w = (opsW (nx Try.prog) mv gdP 134 V7 o7_12 (fun e w => W Try.prog 134 V7 c7_26 Q e w) o7_12.toList [] e e w) := by rw [(by kernel_rfl : c7_25 = .seq (.region 12 o7_12 false) c7_26), W_seq_reg]
theorem c7_16_s (hw : Cur w) : W Try.prog 134 V7 c7_16 Q e w = (W Try.prog 134 V7 c7_25 (seqQ (fun e w => W Try.prog 134 V7 c7_17 Q e w) Q) e w) := by rw [(by kernel_rfl : c7_16 = .seq c7_25 c7_17), W_seq]
theorem c7_15_s (hw : Cur w) : W Try.prog 134 V7 c7_15 Q e w = (opsW (nx Try.prog) mv gdP 134 V7 o7_11 (fun e w => W Try.prog 134 V7 c7_16 Q e w) o7_11.toList [] e e w) := by rw [(by kernel_rfl : c7_15 = .seq (.region 11 o7_11 false) c7_16), W_seq_reg]
theorem c7_14_s (hw : Cur w) : W Try.prog 134 V7 c7_14 Q e w = (opsW (nx Try.prog) mv gdP 134 V7 o7_10 (fun e w => W Try.prog 134 V7 c7_15 Q e w) o7_10.toList [] e e w) := by rw [(by kernel_rfl : c7_14 = .seq (.region 10 o7_10 false) c7_15), W_seq_reg]
theorem c7_13_s (hw : Cur w) : W Try.prog 134 V7 c7_13 Q e w = (W Try.prog 134 V7 c7_14 (blockQ 1 Q) e w) := by rw [(by kernel_rfl : c7_13 = .block 1 c7_14), W_block]
theorem c7_11_s (hw : Cur w) : W Try.prog 134 V7 c7_11 Q e w = (W Try.prog 134 V7 c7_13 (seqQ (fun e w => W Try.prog 134 V7 c7_12 Q e w) Q) e w) := by rw [(by kernel_rfl : c7_11 = .seq c7_13 c7_12), W_seq]
theorem o7_8_eq : opsW N M G 134 V7 o7_8 k o7_8.toList [] e e w =
    (M (e 7) fun t20 =>
    M (e 1) fun t21 =>
    N (builtin Builtin.len #[64] 3 ([false]).toArray ([t21]).toArray) w fun t22 w =>
    N (xv (xbin BinOp.lss 3 (Operand.tmp 20) (Operand.tmp 22) t20 t22)) w fun t23 w =>
    k (Env.p e 23 t23) w) := nr (by kernel_rfl)
theorem c7_39_v : opV V7 (.tmp 23) = true := by kernel_rfl
theorem c7_39_s (hw : Cur w) : W Try.prog 134 V7 c7_39 Q e w = (condP (ev e (.tmp 23)) (Q .normal e w) (Q (.exit 0) e w)) := by rw [(by kernel_rfl : c7_39 = .cond (.tmp 23) Code.skip (Code.exit 0)), W_cond, c7_39_v, cond_true]; simp only [W_ret, W_skip, W_exit, W_label]
theorem c7_38_s (hw : Cur w) : W Try.prog 134 V7 c7_38 Q e w = (opsW (nx Try.prog) mv gdP 134 V7 o7_8 (fun e w => W Try.prog 134 V7 c7_39 Q e w) o7_8.toList [] e e w) := by rw [(by kernel_rfl : c7_38 = .seq (.region 8 o7_8 false) c7_39), W_seq_reg]
theorem c7_10_s (hw : Cur w) : W Try.prog 134 V7 c7_10 Q e w = (W Try.prog 134 V7 c7_38 (seqQ (fun e w => W Try.prog 134 V7 c7_11 Q e w) Q) e w) := by rw [(by kernel_rfl : c7_10 = .seq c7_38 c7_11), W_seq]
theorem c7_9_s (hw : Cur w) : W Try.prog 134 V7 c7_9 Q e w = (LoopP (fun e w k => W Try.prog 134 V7 c7_10 (seqQ k Q) e w) e w) := by rw [(by kernel_rfl : c7_9 = .loop c7_10), W_loop]
theorem c7_8_s (hw : Cur w) : W Try.prog 134 V7 c7_8 Q e w = (W Try.prog 134 V7 c7_9 (blockQ 0 Q) e w) := by rw [(by kernel_rfl : c7_8 = .block 0 c7_9), W_block]
theorem c7_7_s (hw : Cur w) : W Try.prog 134 V7 c7_7 Q e w = (opsW (nx Try.prog) mv gdP 134 V7 o7_7 (fun e w => W Try.prog 134 V7 c7_8 Q e w) o7_7.toList [] e e w) := by rw [(by kernel_rfl : c7_7 = .seq (.region 7 o7_7 false) c7_8), W_seq_reg]
theorem c7_5_s (hw : Cur w) : W Try.prog 134 V7 c7_5 Q e w = (W Try.prog 134 V7 c7_7 (seqQ (fun e w => W Try.prog 134 V7 c7_6 Q e w) Q) e w) := by rw [(by kernel_rfl : c7_5 = .seq c7_7 c7_6), W_seq]
theorem c7_4_s (hw : Cur w) : W Try.prog 134 V7 c7_4 Q e w = (opsW (nx Try.prog) mv gdP 134 V7 o7_6 (fun e w => W Try.prog 134 V7 c7_5 Q e w) o7_6.toList [] e e w) := by rw [(by kernel_rfl : c7_4 = .seq (.region 6 o7_6 false) c7_5), W_seq_reg]
theorem o7_4_eq : opsW N M G 134 V7 o7_4 k o7_4.toList [] e e w =
    (M (e 5) fun t18 =>
    N (xv (xbin BinOp.eql 65 (Operand.tmp 18) (Operand.const (Value.pointer none)) t18 (Value.pointer none))) w fun t19 w =>
    k (Env.p e 19 t19) w) := nr (by kernel_rfl)
theorem o7_5_eq : opsW N M G 134 V7 o7_5 k o7_5.toList [] e e w =
    (M (Value.bool false) fun t4 =>
    k (Env.p e 4 t4) w) := nr (by kernel_rfl)
theorem c7_42_s (hw : Cur w) : W Try.prog 134 V7 c7_42 Q e w = (opsW (nx Try.prog) mv gdP 134 V7 o7_5 (fun e w => Q .ret e w) o7_5.toList [] e e w) := by rw [(by kernel_rfl : c7_42 = .seq (.region 5 o7_5 false) Code.ret), W_seq_reg]; simp only [W_ret, W_skip, W_exit, W_label]
theorem c7_41_v : opV V7 (.tmp 19) = true := by kernel_rfl
theorem c7_41_s (hw : Cur w) : W Try.prog 134 V7 c7_41 Q e w = (condP (ev e (.tmp 19)) (W Try.prog 134 V7 c7_42 Q e w) (Q .normal e w)) := by rw [(by kernel_rfl : c7_41 = .cond (.tmp 19) c7_42 Code.skip), W_cond, c7_41_v, cond_true]; simp only [W_ret, W_skip, W_exit, W_label]
theorem c7_40_s (hw : Cur w) : W Try.prog 134 V7 c7_40 Q e w = (opsW (nx Try.prog) mv gdP 134 V7 o7_4 (fun e w => W Try.prog 134 V7 c7_41 Q e w) o7_4.toList [] e e w) := by rw [(by kernel_rfl : c7_40 = .seq (.region 4 o7_4 false) c7_41), W_seq_reg]
theorem c7_3_s (hw : Cur w) : W Try.prog 134 V7 c7_3 Q e w = (W Try.prog 134 V7 c7_40 (seqQ (fun e w => W Try.prog 134 V7 c7_4 Q e w) Q) e w) := by rw [(by kernel_rfl : c7_3 = .seq c7_40 c7_4), W_seq]
theorem c7_2_s (hw : Cur w) : W Try.prog 134 V7 c7_2 Q e w = (opsW (nx Try.prog) mv gdP 134 V7 o7_3 (fun e w => W Try.prog 134 V7 c7_3 Q e w) o7_3.toList [] e e w) := by rw [(by kernel_rfl : c7_2 = .seq (.region 3 o7_3 false) c7_3), W_seq_reg]
theorem o7_1_eq : opsW N M G 134 V7 o7_1 k o7_1.toList [] e e w =
    (N (xcall (Value.func (Fn.func 25) #[] #[]) []) w fun t13 w =>
    N (xv (Op.unary UnOp.not t13)) w fun t14 w =>
    k (Env.p e 14 t14) w) := nr (by kernel_rfl)
theorem o7_2_eq : opsW N M G 134 V7 o7_2 k o7_2.toList [] e e w =
    (M (Value.bool false) fun t4 =>
    k (Env.p e 4 t4) w) := nr (by kernel_rfl)
theorem c7_45_s (hw : Cur w) : W Try.prog 134 V7 c7_45 Q e w = (opsW (nx Try.prog) mv gdP 134 V7 o7_2 (fun e w => Q .ret e w) o7_2.toList [] e e w) := by rw [(by kernel_rfl : c7_45 = .seq (.region 2 o7_2 false) Code.ret), W_seq_reg]; simp only [W_ret, W_skip, W_exit, W_label]
theorem c7_44_v : opV V7 (.tmp 14) = true := by kernel_rfl
theorem c7_44_s (hw : Cur w) : W Try.prog 134 V7 c7_44 Q e w = (condP (ev e (.tmp 14)) (W Try.prog 134 V7 c7_45 Q e w) (Q .normal e w)) := by rw [(by kernel_rfl : c7_44 = .cond (.tmp 14) c7_45 Code.skip), W_cond, c7_44_v, cond_true]; simp only [W_ret, W_skip, W_exit, W_label]
theorem c7_43_s (hw : Cur w) : W Try.prog 134 V7 c7_43 Q e w = (opsW (nx Try.prog) mv gdP 134 V7 o7_1 (fun e w => W Try.prog 134 V7 c7_44 Q e w) o7_1.toList [] e e w) := by rw [(by kernel_rfl : c7_43 = .seq (.region 1 o7_1 false) c7_44), W_seq_reg]
theorem c7_1_s (hw : Cur w) : W Try.prog 134 V7 c7_1 Q e w = (W Try.prog 134 V7 c7_43 (seqQ (fun e w => W Try.prog 134 V7 c7_2 Q e w) Q) e w) := by rw [(by kernel_rfl : c7_1 = .seq c7_43 c7_2), W_seq]
theorem c7_s (hw : Cur w) : W Try.prog 134 V7 c7 Q e w = (opsW (nx Try.prog) mv gdP 134 V7 o7_0 (fun e w => W Try.prog 134 V7 c7_1 Q e w) o7_0.toList [] e e w) := by rw [(by kernel_rfl : c7 = .seq (.region 0 o7_0 false) c7_1), W_seq_reg]
theorem call7 {a0 a1 : Value} {w : World} {R : Value → World → Prop} (h : W Try.prog 134 V7 c7 (retQ Try.prog [.tmp 4] R) (argE [a0, a1]) w) : CallsN Try.prog 7 [a0, a1] w R :=
  callsN_of_W (c := c7) (rs := [.tmp 4]) V7 Try.ntmps7 (by rw [Try.results7]) mixed Try.func7 (by kernel_rfl) (by kernel_rfl) (by kernel_rfl) (by kernel_rfl) (by simp) h
noncomputable def hk7 := And.intro (@o7_0_eq) <| And.intro (@o7_3_eq) <| And.intro (@o7_6_eq) <| And.intro (@o7_23_eq) <| And.intro (@c7_6_s) <| And.intro (@o7_7_eq) <| And.intro (@o7_9_eq) <| And.intro (@c7_12_s) <| And.intro (@o7_10_eq) <| And.intro (@o7_11_eq) <| And.intro (@o7_18_eq) <| And.intro (@o7_21_eq) <| And.intro (@o7_22_eq) <| And.intro (@c7_21_s) <| And.intro (@c7_20_s) <| And.intro (@c7_19_s) <| And.intro (@o7_19_eq) <| And.intro (@o7_20_eq) <| And.intro (@c7_24_s) <| And.intro (@c7_23_s) <| And.intro (@c7_22_s) <| And.intro (@c7_18_s) <| And.intro (@c7_17_s) <| And.intro (@o7_12_eq) <| And.intro (@o7_14_eq) <| And.intro (@c7_30_s) <| And.intro (@o7_15_eq) <| And.intro (@o7_16_eq) <| And.intro (@o7_17_eq) <| And.intro (@c7_35_s) <| And.intro (@c7_34_s) <| And.intro (@c7_33_s) <| And.intro (@c7_32_s) <| And.intro (@c7_31_s) <| And.intro (@c7_29_s) <| And.intro (@o7_13_eq) <| And.intro (@c7_37_s) <| And.intro (@c7_36_s) <| And.intro (@c7_28_s) <| And.intro (@c7_27_s) <| And.intro (@c7_26_s) <| And.intro (@c7_25_s) <| And.intro (@c7_16_s) <| And.intro (@c7_15_s) <| And.intro (@c7_14_s) <| And.intro (@c7_13_s) <| And.intro (@c7_11_s) <| And.intro (@o7_8_eq) <| And.intro (@c7_39_s) <| And.intro (@c7_38_s) <| And.intro (@c7_10_s) <| And.intro (@c7_9_s) <| And.intro (@c7_8_s) <| And.intro (@c7_7_s) <| And.intro (@c7_5_s) <| And.intro (@c7_4_s) <| And.intro (@o7_4_eq) <| And.intro (@o7_5_eq) <| And.intro (@c7_42_s) <| And.intro (@c7_41_s) <| And.intro (@c7_40_s) <| And.intro (@c7_3_s) <| And.intro (@c7_2_s) <| And.intro (@o7_1_eq) <| And.intro (@o7_2_eq) <| And.intro (@c7_45_s) <| And.intro (@c7_44_s) <| And.intro (@c7_43_s) <| And.intro (@c7_1_s) <| @c7_s
-- K7: ↓hk7
/-! ### vouch/vouchlaw07.GapWhole -/
def V8 : Nat → Bool := fun i => [0, 1, 4, 5, 6, 7, 8, 9, 10, 11, 12, 13, 14, 15, 17, 21, 37, 70, 87, 91, 102].elem i
noncomputable def c8 : Code := (Try.f8.body.getD .skip)
noncomputable def o8_0 : Array Oper := rO (cL c8)
noncomputable def c8_1 : Code := (cR c8)
noncomputable def c8_2 : Code := (cR c8_1)
noncomputable def o8_3 : Array Oper := rO (cL c8_2)
noncomputable def c8_3 : Code := (cR c8_2)
noncomputable def c8_4 : Code := (cR c8_3)
noncomputable def c8_5 : Code := (cR c8_4)
noncomputable def o8_14 : Array Oper := rO (cL c8_5)
noncomputable def c8_6 : Code := (cR c8_5)
noncomputable def o8_15 : Array Oper := rO (cL c8_6)
noncomputable def c8_7 : Code := (cR c8_6)
noncomputable def c8_8 : Code := (cR c8_7)
noncomputable def o8_28 : Array Oper := rO (cL c8_8)
noncomputable def c8_9 : Code := (cL c8_7)
noncomputable def o8_16 : Array Oper := rO (cL c8_9)
noncomputable def c8_10 : Code := (cR c8_9)
noncomputable def c8_11 : Code := (cL c8_10)
noncomputable def c8_12 : Code := (cL c8_11)
noncomputable def c8_13 : Code := (cR c8_12)
noncomputable def c8_14 : Code := (cR c8_13)
noncomputable def o8_18 : Array Oper := rO c8_14
noncomputable def c8_15 : Code := (cL c8_13)
noncomputable def c8_16 : Code := (cL c8_15)
noncomputable def o8_19 : Array Oper := rO (cL c8_16)
noncomputable def c8_17 : Code := (cR c8_16)
noncomputable def c8_18 : Code := (cR c8_17)
noncomputable def o8_22 : Array Oper := rO (cL c8_18)
noncomputable def c8_19 : Code := (cR c8_18)
noncomputable def c8_20 : Code := (cL c8_19)
noncomputable def c8_21 : Code := (cL c8_20)
noncomputable def c8_22 : Code := (cR c8_21)
noncomputable def c8_23 : Code := (cR c8_22)
noncomputable def o8_24 : Array Oper := rO c8_23
noncomputable def c8_24 : Code := (cL c8_22)
noncomputable def c8_25 : Code := (cL c8_24)
noncomputable def o8_25 : Array Oper := rO (cL c8_25)
noncomputable def c8_26 : Code := (cR c8_25)
noncomputable def o8_26 : Array Oper := rO (cL c8_26)
noncomputable def c8_27 : Code := (cR c8_26)
noncomputable def c8_28 : Code := (cL c8_27)
noncomputable def o8_27 : Array Oper := rO (cL c8_28)
noncomputable def c8_29 : Code := (cL c8_21)
noncomputable def o8_23 : Array Oper := rO (cL c8_29)
noncomputable def c8_30 : Code := (cR c8_29)
noncomputable def c8_31 : Code := (cL c8_17)
noncomputable def o8_20 : Array Oper := rO (cL c8_31)
noncomputable def c8_32 : Code := (cR c8_31)
noncomputable def c8_33 : Code := (cL c8_32)
noncomputable def o8_21 : Array Oper := rO (cL c8_33)
noncomputable def c8_34 : Code := (cL c8_12)
noncomputable def o8_17 : Array Oper := rO (cL c8_34)
noncomputable def c8_35 : Code := (cR c8_34)
noncomputable def c8_36 : Code := (cL c8_4)
noncomputable def o8_8 : Array Oper := rO (cL c8_36)
noncomputable def c8_37 : Code := (cR c8_36)
noncomputable def c8_38 : Code := (cL c8_37)
noncomputable def c8_39 : Code := (cL c8_38)
noncomputable def c8_40 : Code := (cR c8_39)
noncomputable def c8_41 : Code := (cR c8_40)
noncomputable def o8_10 : Array Oper := rO c8_41
noncomputable def c8_42 : Code := (cL c8_40)
noncomputable def c8_43 : Code := (cL c8_42)
noncomputable def o8_11 : Array Oper := rO (cL c8_43)
noncomputable def c8_44 : Code := (cR c8_43)
noncomputable def o8_12 : Array Oper := rO (cL c8_44)
noncomputable def c8_45 : Code := (cR c8_44)
noncomputable def o8_13 : Array Oper := rO c8_45
noncomputable def c8_46 : Code := (cL c8_39)
noncomputable def o8_9 : Array Oper := rO (cL c8_46)
noncomputable def c8_47 : Code := (cR c8_46)
noncomputable def c8_48 : Code := (cL c8_3)
noncomputable def o8_4 : Array Oper := rO (cL c8_48)
noncomputable def c8_49 : Code := (cR c8_48)
noncomputable def c8_50 : Code := (cL c8_49)
noncomputable def c8_51 : Code := (cL c8_50)
noncomputable def c8_52 : Code := (cR c8_51)
noncomputable def c8_53 : Code := (cR c8_52)
noncomputable def o8_6 : Array Oper := rO c8_53
noncomputable def c8_54 : Code := (cL c8_52)
noncomputable def c8_55 : Code := (cL c8_54)
noncomputable def o8_7 : Array Oper := rO c8_55
noncomputable def c8_56 : Code := (cL c8_51)
noncomputable def o8_5 : Array Oper := rO (cL c8_56)
noncomputable def c8_57 : Code := (cR c8_56)
noncomputable def c8_58 : Code := (cL c8_1)
noncomputable def o8_1 : Array Oper := rO (cL c8_58)
noncomputable def c8_59 : Code := (cR c8_58)
noncomputable def c8_60 : Code := (cL c8_59)
noncomputable def o8_2 : Array Oper := rO (cL c8_60)
theorem o8_0_eq : opsW N M G 113 V8 o8_0 k o8_0.toList [] e e w =
    (M (Value.bool false) fun t4 =>
    k (Env.p e 4 t4) w) := nr (by kernel_rfl)
theorem o8_3_eq : opsW N M G 113 V8 o8_3 k o8_3.toList [] e e w =
    (M (Value.slice none 0 0) fun t5 =>
    k (Env.p e 5 t5) w) := nr (by kernel_rfl)
theorem o8_14_eq : opsW N M G 113 V8 o8_14 k o8_14.toList [] e e w =
    (N (xcall (Value.func (Fn.func 35) #[] #[]) [(Value.int IntKind.i64 0), (Value.int IntKind.i64 256)]) w fun t66 w =>
    M t66 fun t10 =>
    k (Env.p e 10 t10) w) := nr (by kernel_rfl)
theorem o8_15_eq : opsW N M G 113 V8 o8_15 k o8_15.toList [] e e w =
    (M (Value.int IntKind.i64 0) fun t11 =>
    k (Env.p e 11 t11) w) := nr (by kernel_rfl)
theorem o8_28_eq : opsW N M G 113 V8 o8_28 k o8_28.toList [] e e w =
    (M (e 11) fun t103 =>
    M (e 0) fun t104 =>
    N (xv (convert 5 2 t104)) w fun t105 w =>
    N (xv (xbin BinOp.eql 2 (Operand.tmp 103) (Operand.tmp 105) t103 t105)) w fun t106 w =>
    M t106 fun t107 =>
    G (isB t107 true) (fun K => M (e 10) fun v => K v w) (fun t108 w =>
    G (isB t107 true) (fun K => N (xcall (Value.func (Fn.func 37) #[] #[]) [t108]) w K) (fun t109 w =>
    G (isB t107 true) (fun K => N (builtin Builtin.len #[71] 3 ([false]).toArray ([t109]).toArray) w K) (fun t110 w =>
    G (isB t107 true) (fun K => N (xv (xbin BinOp.eql 3 (Operand.tmp 110) (Operand.const (Value.int IntKind.i64 0)) t110 (Value.int IntKind.i64 0))) w K) (fun t111 w =>
    N (xpick t107 t111 (Value.bool false)) w fun t112 w =>
    M t112 fun t4 =>
    k (Env.p e 4 t4) w) w) w) w) w) := nr (by kernel_rfl)
theorem c8_8_s (hw : Cur w) : W Try.prog 113 V8 c8_8 Q e w = (opsW (nx Try.prog) mv gdP 113 V8 o8_28 (fun e w => Q .ret e w) o8_28.toList [] e e w) := by rw [(by kernel_rfl : c8_8 = .seq (.region 28 o8_28 false) Code.ret), W_seq_reg]; simp only [W_ret, W_skip, W_exit, W_label]
theorem o8_16_eq : opsW N M G 113 V8 o8_16 k o8_16.toList [] e e w =
    (M (Value.int IntKind.i64 0) fun t12 =>
    k (Env.p e 12 t12) w) := nr (by kernel_rfl)
theorem o8_18_eq : opsW N M G 113 V8 o8_18 k o8_18.toList [] e e w =
    (M (e 12) fun t71 =>
    N (xv (xbin BinOp.add 3 (Operand.tmp 71) (Operand.const (Value.int IntKind.i64 1)) t71 (Value.int IntKind.i64 1))) w fun t72 w =>
    M t72 fun t12 =>
    k (Env.p e 12 t12) w) := nr (by kernel_rfl)
theorem c8_14_s (hw : Cur w) : W Try.prog 113 V8 c8_14 Q e w = (opsW (nx Try.prog) mv gdP 113 V8 o8_18 (fun e w => Q .normal e w) o8_18.toList [] e e w) := by rw [(by kernel_rfl : c8_14 = (.region 18 o8_18 false)), W_reg]
theorem o8_19_eq : drawGo N T M G H 113 V8 o8_19 S k o8_19.size true (Array.replicate o8_19.size false) [] e e w =
    (M (e 10) fun t74 =>
    M (e 5) fun t75 =>
    M (e 12) fun t76 =>
    T (xv (Instr.indexAt 71 t75 t76)) fun t77 =>
    T (xv (Instr.loadAt 2 t77)) fun t78 =>
    M (e 5) fun t79 =>
    M (e 12) fun t80 =>
    T (xv (Instr.indexAt 71 t79 t80)) fun t81 =>
    T (xv (Instr.loadAt 2 t81)) fun t82 =>
    T (xv (Op.unary UnOp.neg t82)) fun t83 =>
    N (xcall (Value.func (Fn.func 36) #[] #[]) [t74, t78, t83]) w fun t84 w =>
    S w ∧ (M t84 fun t73 =>
    T (xv (Instr.extract t73 0)) fun t85 =>
    T (xv (Instr.extract t73 1)) fun t86 =>
    M t85 fun t13 =>
    M t86 fun t14 =>
    k (Env.p (Env.p e 13 t13) 14 t14) w)) := nr (by kernel_rfl)
theorem o8_22_eq : opsW N M G 113 V8 o8_22 k o8_22.toList [] e e w =
    (M (Value.int IntKind.i64 0) fun t15 =>
    k (Env.p e 15 t15) w) := nr (by kernel_rfl)
theorem o8_24_eq : opsW N M G 113 V8 o8_24 k o8_24.toList [] e e w =
    (M (e 15) fun t92 =>
    N (xv (xbin BinOp.add 3 (Operand.tmp 92) (Operand.const (Value.int IntKind.i64 1)) t92 (Value.int IntKind.i64 1))) w fun t93 w =>
    M t93 fun t15 =>
    k (Env.p e 15 t15) w) := nr (by kernel_rfl)
theorem c8_23_s (hw : Cur w) : W Try.prog 113 V8 c8_23 Q e w = (opsW (nx Try.prog) mv gdP 113 V8 o8_24 (fun e w => Q .normal e w) o8_24.toList [] e e w) := by rw [(by kernel_rfl : c8_23 = (.region 24 o8_24 false)), W_reg]
theorem o8_25_eq : opsW N M G 113 V8 o8_25 k o8_25.toList [] e e w =
    (M (e 11) fun t94 =>
    N (xv (xbin BinOp.add 2 (Operand.tmp 94) (Operand.const (Value.int IntKind.i64 1)) t94 (Value.int IntKind.i64 1))) w fun t95 w =>
    M t95 fun t11 =>
    k (Env.p e 11 t11) w) := nr (by kernel_rfl)
theorem o8_26_eq : opsW N M G 113 V8 o8_26 k o8_26.toList [] e e w =
    (M (e 13) fun t96 =>
    M (e 15) fun t97 =>
    N (xv (Instr.indexAt 71 t96 t97)) w fun t98 w =>
    N (xv (Instr.loadAt 2 t98)) w fun t99 w =>
    M (e 11) fun t100 =>
    N (xv (Op.unary UnOp.neg t100)) w fun t101 w =>
    N (xv (xbin BinOp.neq 2 (Operand.tmp 99) (Operand.tmp 101) t99 t101)) w fun t102 w =>
    k (Env.p e 102 t102) w) := nr (by kernel_rfl)
theorem o8_27_eq : opsW N M G 113 V8 o8_27 k o8_27.toList [] e e w =
    (M (Value.bool false) fun t4 =>
    k (Env.p e 4 t4) w) := nr (by kernel_rfl)
theorem c8_28_s (hw : Cur w) : W Try.prog 113 V8 c8_28 Q e w = (opsW (nx Try.prog) mv gdP 113 V8 o8_27 (fun e w => Q .ret e w) o8_27.toList [] e e w) := by rw [(by kernel_rfl : c8_28 = .seq (.region 27 o8_27 false) Code.ret), W_seq_reg]; simp only [W_ret, W_skip, W_exit, W_label]
theorem c8_27_v : opV V8 (.tmp 102) = true := by kernel_rfl
theorem c8_27_s (hw : Cur w) : W Try.prog 113 V8 c8_27 Q e w = (condP (ev e (.tmp 102)) (W Try.prog 113 V8 c8_28 Q e w) (Q .normal e w)) := by rw [(by kernel_rfl : c8_27 = .cond (.tmp 102) c8_28 Code.skip), W_cond, c8_27_v, cond_true]; simp only [W_ret, W_skip, W_exit, W_label]
theorem c8_26_s (hw : Cur w) : W Try.prog 113 V8 c8_26 Q e w = (opsW (nx Try.prog) mv gdP 113 V8 o8_26 (fun e w => W Try.prog 113 V8 c8_27 Q e w) o8_26.toList [] e e w) := by rw [(by kernel_rfl : c8_26 = .seq (.region 26 o8_26 false) c8_27), W_seq_reg]
theorem c8_25_s (hw : Cur w) : W Try.prog 113 V8 c8_25 Q e w = (opsW (nx Try.prog) mv gdP 113 V8 o8_25 (fun e w => W Try.prog 113 V8 c8_26 Q e w) o8_25.toList [] e e w) := by rw [(by kernel_rfl : c8_25 = .seq (.region 25 o8_25 false) c8_26), W_seq_reg]
theorem c8_24_s (hw : Cur w) : W Try.prog 113 V8 c8_24 Q e w = (W Try.prog 113 V8 c8_25 (blockQ 7 Q) e w) := by rw [(by kernel_rfl : c8_24 = .block 7 c8_25), W_block]
theorem c8_22_s (hw : Cur w) : W Try.prog 113 V8 c8_22 Q e w = (W Try.prog 113 V8 c8_24 (seqQ (fun e w => W Try.prog 113 V8 c8_23 Q e w) Q) e w) := by rw [(by kernel_rfl : c8_22 = .seq c8_24 c8_23), W_seq]
theorem o8_23_eq : opsW N M G 113 V8 o8_23 k o8_23.toList [] e e w =
    (M (e 15) fun t88 =>
    M (e 13) fun t89 =>
    N (builtin Builtin.len #[71] 3 ([false]).toArray ([t89]).toArray) w fun t90 w =>
    N (xv (xbin BinOp.lss 3 (Operand.tmp 88) (Operand.tmp 90) t88 t90)) w fun t91 w =>
    k (Env.p e 91 t91) w) := nr (by kernel_rfl)
theorem c8_30_v : opV V8 (.tmp 91) = true := by kernel_rfl
theorem c8_30_s (hw : Cur w) : W Try.prog 113 V8 c8_30 Q e w = (condP (ev e (.tmp 91)) (Q .normal e w) (Q (.exit 6) e w)) := by rw [(by kernel_rfl : c8_30 = .cond (.tmp 91) Code.skip (Code.exit 6)), W_cond, c8_30_v, cond_true]; simp only [W_ret, W_skip, W_exit, W_label]
theorem c8_29_s (hw : Cur w) : W Try.prog 113 V8 c8_29 Q e w = (opsW (nx Try.prog) mv gdP 113 V8 o8_23 (fun e w => W Try.prog 113 V8 c8_30 Q e w) o8_23.toList [] e e w) := by rw [(by kernel_rfl : c8_29 = .seq (.region 23 o8_23 false) c8_30), W_seq_reg]
theorem c8_21_s (hw : Cur w) : W Try.prog 113 V8 c8_21 Q e w = (W Try.prog 113 V8 c8_29 (seqQ (fun e w => W Try.prog 113 V8 c8_22 Q e w) Q) e w) := by rw [(by kernel_rfl : c8_21 = .seq c8_29 c8_22), W_seq]
theorem c8_20_s (hw : Cur w) : W Try.prog 113 V8 c8_20 Q e w = (LoopP (fun e w k => W Try.prog 113 V8 c8_21 (seqQ k Q) e w) e w) := by rw [(by kernel_rfl : c8_20 = .loop c8_21), W_loop]
theorem c8_19_s (hw : Cur w) : W Try.prog 113 V8 c8_19 Q e w = (W Try.prog 113 V8 c8_20 (blockQ 6 Q) e w) := by rw [(by kernel_rfl : c8_19 = .block 6 c8_20), W_block]
theorem c8_18_s (hw : Cur w) : W Try.prog 113 V8 c8_18 Q e w = (opsW (nx Try.prog) mv gdP 113 V8 o8_22 (fun e w => W Try.prog 113 V8 c8_19 Q e w) o8_22.toList [] e e w) := by rw [(by kernel_rfl : c8_18 = .seq (.region 22 o8_22 false) c8_19), W_seq_reg]
theorem o8_20_eq : opsW N M G 113 V8 o8_20 k o8_20.toList [] e e w =
    (M (e 14) fun t87 =>
    k (Env.p e 87 t87) w) := nr (by kernel_rfl)
theorem o8_21_eq : opsW N M G 113 V8 o8_21 k o8_21.toList [] e e w =
    (M (Value.bool false) fun t4 =>
    k (Env.p e 4 t4) w) := nr (by kernel_rfl)
theorem c8_33_s (hw : Cur w) : W Try.prog 113 V8 c8_33 Q e w = (opsW (nx Try.prog) mv gdP 113 V8 o8_21 (fun e w => Q .ret e w) o8_21.toList [] e e w) := by rw [(by kernel_rfl : c8_33 = .seq (.region 21 o8_21 false) Code.ret), W_seq_reg]; simp only [W_ret, W_skip, W_exit, W_label]
theorem c8_32_v : opV V8 (.tmp 87) = true := by kernel_rfl
theorem c8_32_s (hw : Cur w) : W Try.prog 113 V8 c8_32 Q e w = (condP (ev e (.tmp 87)) (W Try.prog 113 V8 c8_33 Q e w) (Q .normal e w)) := by rw [(by kernel_rfl : c8_32 = .cond (.tmp 87) c8_33 Code.skip), W_cond, c8_32_v, cond_true]; simp only [W_ret, W_skip, W_exit, W_label]
theorem c8_31_s (hw : Cur w) : W Try.prog 113 V8 c8_31 Q e w = (opsW (nx Try.prog) mv gdP 113 V8 o8_20 (fun e w => W Try.prog 113 V8 c8_32 Q e w) o8_20.toList [] e e w) := by rw [(by kernel_rfl : c8_31 = .seq (.region 20 o8_20 false) c8_32), W_seq_reg]
theorem c8_17_s (hw : Cur w) : W Try.prog 113 V8 c8_17 Q e w = (W Try.prog 113 V8 c8_31 (seqQ (fun e w => W Try.prog 113 V8 c8_18 Q e w) Q) e w) := by rw [(by kernel_rfl : c8_17 = .seq c8_31 c8_18), W_seq]
theorem c8_16_s (hw : Cur w) : W Try.prog 113 V8 c8_16 Q e w = (∃ S : World → Prop, S w.drew ∧ drawGo (nx Try.prog) (takeP Try.prog S) mv gdP gdT 113 V8 o8_19 S (fun e w => W Try.prog 113 V8 c8_17 Q e w) o8_19.size true (Array.replicate o8_19.size false) [] e e w.drew) := by rw [(by kernel_rfl : c8_16 = .seq (.region 19 o8_19 true) c8_17), W_seq_regD]
theorem c8_15_s (hw : Cur w) : W Try.prog 113 V8 c8_15 Q e w = (W Try.prog 113 V8 c8_16 (blockQ 5 Q) e w) := by rw [(by kernel_rfl : c8_15 = .block 5 c8_16), W_block]
theorem c8_13_s (hw : Cur w) : W Try.prog 113 V8 c8_13 Q e w = (W Try.prog 113 V8 c8_15 (seqQ (fun e w => W Try.prog 113 V8 c8_14 Q e w) Q) e w) := by rw [(by kernel_rfl : c8_13 = .seq c8_15 c8_14), W_seq]
theorem o8_17_eq : opsW N M G 113 V8 o8_17 k o8_17.toList [] e e w =
    (M (e 12) fun t67 =>
    M (e 5) fun t68 =>
    N (builtin Builtin.len #[71] 3 ([false]).toArray ([t68]).toArray) w fun t69 w =>
    N (xv (xbin BinOp.lss 3 (Operand.tmp 67) (Operand.tmp 69) t67 t69)) w fun t70 w =>
    k (Env.p e 70 t70) w) := nr (by kernel_rfl)
theorem c8_35_v : opV V8 (.tmp 70) = true := by kernel_rfl
theorem c8_35_s (hw : Cur w) : W Try.prog 113 V8 c8_35 Q e w = (condP (ev e (.tmp 70)) (Q .normal e w) (Q (.exit 4) e w)) := by rw [(by kernel_rfl : c8_35 = .cond (.tmp 70) Code.skip (Code.exit 4)), W_cond, c8_35_v, cond_true]; simp only [W_ret, W_skip, W_exit, W_label]
theorem c8_34_s (hw : Cur w) : W Try.prog 113 V8 c8_34 Q e w = (opsW (nx Try.prog) mv gdP 113 V8 o8_17 (fun e w => W Try.prog 113 V8 c8_35 Q e w) o8_17.toList [] e e w) := by rw [(by kernel_rfl : c8_34 = .seq (.region 17 o8_17 false) c8_35), W_seq_reg]
theorem c8_12_s (hw : Cur w) : W Try.prog 113 V8 c8_12 Q e w = (W Try.prog 113 V8 c8_34 (seqQ (fun e w => W Try.prog 113 V8 c8_13 Q e w) Q) e w) := by rw [(by kernel_rfl : c8_12 = .seq c8_34 c8_13), W_seq]
theorem c8_11_s (hw : Cur w) : W Try.prog 113 V8 c8_11 Q e w = (LoopP (fun e w k => W Try.prog 113 V8 c8_12 (seqQ k Q) e w) e w) := by rw [(by kernel_rfl : c8_11 = .loop c8_12), W_loop]
theorem c8_10_s (hw : Cur w) : W Try.prog 113 V8 c8_10 Q e w = (W Try.prog 113 V8 c8_11 (blockQ 4 Q) e w) := by rw [(by kernel_rfl : c8_10 = .block 4 c8_11), W_block]
theorem c8_9_s (hw : Cur w) : W Try.prog 113 V8 c8_9 Q e w = (opsW (nx Try.prog) mv gdP 113 V8 o8_16 (fun e w => W Try.prog 113 V8 c8_10 Q e w) o8_16.toList [] e e w) := by rw [(by kernel_rfl : c8_9 = .seq (.region 16 o8_16 false) c8_10), W_seq_reg]
theorem c8_7_s (hw : Cur w) : W Try.prog 113 V8 c8_7 Q e w = (W Try.prog 113 V8 c8_9 (seqQ (fun e w => W Try.prog 113 V8 c8_8 Q e w) Q) e w) := by rw [(by kernel_rfl : c8_7 = .seq c8_9 c8_8), W_seq]
theorem c8_6_s (hw : Cur w) : W Try.prog 113 V8 c8_6 Q e w = (opsW (nx Try.prog) mv gdP 113 V8 o8_15 (fun e w => W Try.prog 113 V8 c8_7 Q e w) o8_15.toList [] e e w) := by rw [(by kernel_rfl : c8_6 = .seq (.region 15 o8_15 false) c8_7), W_seq_reg]
theorem c8_5_s (hw : Cur w) : W Try.prog 113 V8 c8_5 Q e w = (opsW (nx Try.prog) mv gdP 113 V8 o8_14 (fun e w => W Try.prog 113 V8 c8_6 Q e w) o8_14.toList [] e e w) := by rw [(by kernel_rfl : c8_5 = .seq (.region 14 o8_14 false) c8_6), W_seq_reg]
theorem o8_8_eq : opsW N M G 113 V8 o8_8 k o8_8.toList [] e e w =
    (M (Value.int IntKind.i64 0) fun t7 =>
    k (Env.p e 7 t7) w) := nr (by kernel_rfl)
theorem o8_10_eq : opsW N M G 113 V8 o8_10 k o8_10.toList [] e e w =
    (M (e 7) fun t38 =>
    N (xv (xbin BinOp.add 3 (Operand.tmp 38) (Operand.const (Value.int IntKind.i64 1)) t38 (Value.int IntKind.i64 1))) w fun t39 w =>
    M t39 fun t7 =>
    k (Env.p e 7 t7) w) := nr (by kernel_rfl)
theorem c8_41_s (hw : Cur w) : W Try.prog 113 V8 c8_41 Q e w = (opsW (nx Try.prog) mv gdP 113 V8 o8_10 (fun e w => Q .normal e w) o8_10.toList [] e e w) := by rw [(by kernel_rfl : c8_41 = (.region 10 o8_10 false)), W_reg]
theorem o8_11_eq : opsW N M G 113 V8 o8_11 k o8_11.toList [] e e w =
    (M (e 1) fun t40 =>
    M (e 7) fun t41 =>
    N (xv (Instr.indexAt 75 t40 t41)) w fun t42 w =>
    N (xv (Instr.loadAt 5 t42)) w fun t43 w =>
    N (xv (convert 5 3 t43)) w fun t44 w =>
    M (e 5) fun t45 =>
    N (builtin Builtin.len #[71] 3 ([false]).toArray ([t45]).toArray) w fun t46 w =>
    N (xv (xbin BinOp.rem 3 (Operand.tmp 44) (Operand.tmp 46) t44 t46)) w fun t47 w =>
    M t47 fun t8 =>
    k (Env.p e 8 t8) w) := nr (by kernel_rfl)
theorem o8_12_eq : opsW N M G 113 V8 o8_12 k o8_12.toList [] e e w =
    (M (e 7) fun t48 =>
    M (e 5) fun t49 =>
    N (builtin Builtin.len #[71] 3 ([false]).toArray ([t49]).toArray) w fun t50 w =>
    N (xv (xbin BinOp.rem 3 (Operand.tmp 48) (Operand.tmp 50) t48 t50)) w fun t51 w =>
    M t51 fun t9 =>
    k (Env.p e 9 t9) w) := nr (by kernel_rfl)
theorem o8_13_eq : drawGo N T M G H 113 V8 o8_13 S k o8_13.size true (Array.replicate o8_13.size false) [] e e w =
    (M (e 5) fun t52 =>
    M (e 8) fun t53 =>
    M (e 5) fun t54 =>
    M (e 9) fun t55 =>
    M (e 5) fun t56 =>
    M (e 9) fun t57 =>
    T (xv (Instr.indexAt 71 t56 t57)) fun t58 =>
    T (xv (Instr.loadAt 2 t58)) fun t59 =>
    M (e 5) fun t60 =>
    M (e 8) fun t61 =>
    T (xv (Instr.indexAt 71 t60 t61)) fun t62 =>
    T (xv (Instr.loadAt 2 t62)) fun t63 =>
    T (xv (Instr.indexAt 71 t52 t53)) fun t64 =>
    N (xu (Instr.storeAt 2 t64 t59)) w fun _ w =>
    S w ∧ (T (xv (Instr.indexAt 71 t54 t55)) fun t65 =>
    N (xu (Instr.storeAt 2 t65 t63)) w fun _ w =>
    k e w)) := nr (by kernel_rfl)
theorem c8_45_s (hw : Cur w) : W Try.prog 113 V8 c8_45 Q e w = (∃ S : World → Prop, S w.drew ∧ drawGo (nx Try.prog) (takeP Try.prog S) mv gdP gdT 113 V8 o8_13 S (fun e w => Q .normal e w) o8_13.size true (Array.replicate o8_13.size false) [] e e w.drew) := by rw [(by kernel_rfl : c8_45 = (.region 13 o8_13 true)), W_regD']
theorem c8_44_s (hw : Cur w) : W Try.prog 113 V8 c8_44 Q e w = (opsW (nx Try.prog) mv gdP 113 V8 o8_12 (fun e w => W Try.prog 113 V8 c8_45 Q e w) o8_12.toList [] e e w) := by rw [(by kernel_rfl : c8_44 = .seq (.region 12 o8_12 false) c8_45), W_seq_reg]
theorem c8_43_s (hw : Cur w) : W Try.prog 113 V8 c8_43 Q e w = (opsW (nx Try.prog) mv gdP 113 V8 o8_11 (fun e w => W Try.prog 113 V8 c8_44 Q e w) o8_11.toList [] e e w) := by rw [(by kernel_rfl : c8_43 = .seq (.region 11 o8_11 false) c8_44), W_seq_reg]
theorem c8_42_s (hw : Cur w) : W Try.prog 113 V8 c8_42 Q e w = (W Try.prog 113 V8 c8_43 (blockQ 3 Q) e w) := by rw [(by kernel_rfl : c8_42 = .block 3 c8_43), W_block]
theorem c8_40_s (hw : Cur w) : W Try.prog 113 V8 c8_40 Q e w = (W Try.prog 113 V8 c8_42 (seqQ (fun e w => W Try.prog 113 V8 c8_41 Q e w) Q) e w) := by rw [(by kernel_rfl : c8_40 = .seq c8_42 c8_41), W_seq]
theorem o8_9_eq : opsW N M G 113 V8 o8_9 k o8_9.toList [] e e w =
    (M (e 7) fun t29 =>
    M (e 1) fun t30 =>
    N (builtin Builtin.len #[75] 3 ([false]).toArray ([t30]).toArray) w fun t31 w =>
    N (xv (xbin BinOp.lss 3 (Operand.tmp 29) (Operand.tmp 31) t29 t31)) w fun t32 w =>
    M t32 fun t33 =>
    G (isB t33 true) (fun K => M (e 5) fun v => K v w) (fun t34 w =>
    G (isB t33 true) (fun K => N (builtin Builtin.len #[71] 3 ([false]).toArray ([t34]).toArray) w K) (fun t35 w =>
    G (isB t33 true) (fun K => N (xv (xbin BinOp.gtr 3 (Operand.tmp 35) (Operand.const (Value.int IntKind.i64 0)) t35 (Value.int IntKind.i64 0))) w K) (fun t36 w =>
    N (xpick t33 t36 (Value.bool false)) w fun t37 w =>
    k (Env.p e 37 t37) w) w) w) w) := nr (by kernel_rfl)
theorem c8_47_v : opV V8 (.tmp 37) = true := by kernel_rfl
theorem c8_47_s (hw : Cur w) : W Try.prog 113 V8 c8_47 Q e w = (condP (ev e (.tmp 37)) (Q .normal e w) (Q (.exit 2) e w)) := by rw [(by kernel_rfl : c8_47 = .cond (.tmp 37) Code.skip (Code.exit 2)), W_cond, c8_47_v, cond_true]; simp only [W_ret, W_skip, W_exit, W_label]
theorem c8_46_s (hw : Cur w) : W Try.prog 113 V8 c8_46 Q e w = (opsW (nx Try.prog) mv gdP 113 V8 o8_9 (fun e w => W Try.prog 113 V8 c8_47 Q e w) o8_9.toList [] e e w) := by rw [(by kernel_rfl : c8_46 = .seq (.region 9 o8_9 false) c8_47), W_seq_reg]
theorem c8_39_s (hw : Cur w) : W Try.prog 113 V8 c8_39 Q e w = (W Try.prog 113 V8 c8_46 (seqQ (fun e w => W Try.prog 113 V8 c8_40 Q e w) Q) e w) := by rw [(by kernel_rfl : c8_39 = .seq c8_46 c8_40), W_seq]
theorem c8_38_s (hw : Cur w) : W Try.prog 113 V8 c8_38 Q e w = (LoopP (fun e w k => W Try.prog 113 V8 c8_39 (seqQ k Q) e w) e w) := by rw [(by kernel_rfl : c8_38 = .loop c8_39), W_loop]
theorem c8_37_s (hw : Cur w) : W Try.prog 113 V8 c8_37 Q e w = (W Try.prog 113 V8 c8_38 (blockQ 2 Q) e w) := by rw [(by kernel_rfl : c8_37 = .block 2 c8_38), W_block]
theorem c8_36_s (hw : Cur w) : W Try.prog 113 V8 c8_36 Q e w = (opsW (nx Try.prog) mv gdP 113 V8 o8_8 (fun e w => W Try.prog 113 V8 c8_37 Q e w) o8_8.toList [] e e w) := by rw [(by kernel_rfl : c8_36 = .seq (.region 8 o8_8 false) c8_37), W_seq_reg]
theorem c8_4_s (hw : Cur w) : W Try.prog 113 V8 c8_4 Q e w = (W Try.prog 113 V8 c8_36 (seqQ (fun e w => W Try.prog 113 V8 c8_5 Q e w) Q) e w) := by rw [(by kernel_rfl : c8_4 = .seq c8_36 c8_5), W_seq]
theorem o8_4_eq : opsW N M G 113 V8 o8_4 k o8_4.toList [] e e w =
    (M (Value.int IntKind.i64 0) fun t6 =>
    k (Env.p e 6 t6) w) := nr (by kernel_rfl)
theorem o8_6_eq : opsW N M G 113 V8 o8_6 k o8_6.toList [] e e w =
    (M (e 6) fun t22 =>
    N (xv (xbin BinOp.add 3 (Operand.tmp 22) (Operand.const (Value.int IntKind.i64 1)) t22 (Value.int IntKind.i64 1))) w fun t23 w =>
    M t23 fun t6 =>
    k (Env.p e 6 t6) w) := nr (by kernel_rfl)
theorem c8_53_s (hw : Cur w) : W Try.prog 113 V8 c8_53 Q e w = (opsW (nx Try.prog) mv gdP 113 V8 o8_6 (fun e w => Q .normal e w) o8_6.toList [] e e w) := by rw [(by kernel_rfl : c8_53 = (.region 6 o8_6 false)), W_reg]
theorem o8_7_eq : opsW N M G 113 V8 o8_7 k o8_7.toList [] e e w =
    (M (e 5) fun t24 =>
    M (e 6) fun t25 =>
    N (xv (xbin BinOp.add 2 (Operand.tmp 25) (Operand.const (Value.int IntKind.i64 1)) t25 (Value.int IntKind.i64 1))) w fun t26 w =>
    N (xv (Instr.buildSlice 71 1 ([(0, t26)]).toArray)) w fun t27 w =>
    N (builtin Builtin.append #[71, 71] 71 ([false, false]).toArray ([t24, t27]).toArray) w fun t28 w =>
    M t28 fun t5 =>
    k (Env.p e 5 t5) w) := nr (by kernel_rfl)
theorem c8_55_s (hw : Cur w) : W Try.prog 113 V8 c8_55 Q e w = (opsW (nx Try.prog) mv gdP 113 V8 o8_7 (fun e w => Q .normal e w) o8_7.toList [] e e w) := by rw [(by kernel_rfl : c8_55 = (.region 7 o8_7 false)), W_reg]
theorem c8_54_s (hw : Cur w) : W Try.prog 113 V8 c8_54 Q e w = (W Try.prog 113 V8 c8_55 (blockQ 1 Q) e w) := by rw [(by kernel_rfl : c8_54 = .block 1 c8_55), W_block]
theorem c8_52_s (hw : Cur w) : W Try.prog 113 V8 c8_52 Q e w = (W Try.prog 113 V8 c8_54 (seqQ (fun e w => W Try.prog 113 V8 c8_53 Q e w) Q) e w) := by rw [(by kernel_rfl : c8_52 = .seq c8_54 c8_53), W_seq]
theorem o8_5_eq : opsW N M G 113 V8 o8_5 k o8_5.toList [] e e w =
    (M (e 6) fun t18 =>
    M (e 0) fun t19 =>
    N (xv (convert 5 3 t19)) w fun t20 w =>
    N (xv (xbin BinOp.lss 3 (Operand.tmp 18) (Operand.tmp 20) t18 t20)) w fun t21 w =>
    k (Env.p e 21 t21) w) := nr (by kernel_rfl)
theorem c8_57_v : opV V8 (.tmp 21) = true := by kernel_rfl
theorem c8_57_s (hw : Cur w) : W Try.prog 113 V8 c8_57 Q e w = (condP (ev e (.tmp 21)) (Q .normal e w) (Q (.exit 0) e w)) := by rw [(by kernel_rfl : c8_57 = .cond (.tmp 21) Code.skip (Code.exit 0)), W_cond, c8_57_v, cond_true]; simp only [W_ret, W_skip, W_exit, W_label]
theorem c8_56_s (hw : Cur w) : W Try.prog 113 V8 c8_56 Q e w = (opsW (nx Try.prog) mv gdP 113 V8 o8_5 (fun e w => W Try.prog 113 V8 c8_57 Q e w) o8_5.toList [] e e w) := by rw [(by kernel_rfl : c8_56 = .seq (.region 5 o8_5 false) c8_57), W_seq_reg]
theorem c8_51_s (hw : Cur w) : W Try.prog 113 V8 c8_51 Q e w = (W Try.prog 113 V8 c8_56 (seqQ (fun e w => W Try.prog 113 V8 c8_52 Q e w) Q) e w) := by rw [(by kernel_rfl : c8_51 = .seq c8_56 c8_52), W_seq]
theorem c8_50_s (hw : Cur w) : W Try.prog 113 V8 c8_50 Q e w = (LoopP (fun e w k => W Try.prog 113 V8 c8_51 (seqQ k Q) e w) e w) := by rw [(by kernel_rfl : c8_50 = .loop c8_51), W_loop]
theorem c8_49_s (hw : Cur w) : W Try.prog 113 V8 c8_49 Q e w = (W Try.prog 113 V8 c8_50 (blockQ 0 Q) e w) := by rw [(by kernel_rfl : c8_49 = .block 0 c8_50), W_block]
theorem c8_48_s (hw : Cur w) : W Try.prog 113 V8 c8_48 Q e w = (opsW (nx Try.prog) mv gdP 113 V8 o8_4 (fun e w => W Try.prog 113 V8 c8_49 Q e w) o8_4.toList [] e e w) := by rw [(by kernel_rfl : c8_48 = .seq (.region 4 o8_4 false) c8_49), W_seq_reg]
theorem c8_3_s (hw : Cur w) : W Try.prog 113 V8 c8_3 Q e w = (W Try.prog 113 V8 c8_48 (seqQ (fun e w => W Try.prog 113 V8 c8_4 Q e w) Q) e w) := by rw [(by kernel_rfl : c8_3 = .seq c8_48 c8_4), W_seq]
theorem c8_2_s (hw : Cur w) : W Try.prog 113 V8 c8_2 Q e w = (opsW (nx Try.prog) mv gdP 113 V8 o8_3 (fun e w => W Try.prog 113 V8 c8_3 Q e w) o8_3.toList [] e e w) := by rw [(by kernel_rfl : c8_2 = .seq (.region 3 o8_3 false) c8_3), W_seq_reg]
theorem o8_1_eq : opsW N M G 113 V8 o8_1 k o8_1.toList [] e e w =
    (N (xcall (Value.func (Fn.func 25) #[] #[]) []) w fun t16 w =>
    N (xv (Op.unary UnOp.not t16)) w fun t17 w =>
    k (Env.p e 17 t17) w) := nr (by kernel_rfl)
theorem o8_2_eq : opsW N M G 113 V8 o8_2 k o8_2.toList [] e e w =
    (M (Value.bool false) fun t4 =>
    k (Env.p e 4 t4) w) := nr (by kernel_rfl)
theorem c8_60_s (hw : Cur w) : W Try.prog 113 V8 c8_60 Q e w = (opsW (nx Try.prog) mv gdP 113 V8 o8_2 (fun e w => Q .ret e w) o8_2.toList [] e e w) := by rw [(by kernel_rfl : c8_60 = .seq (.region 2 o8_2 false) Code.ret), W_seq_reg]; simp only [W_ret, W_skip, W_exit, W_label]
theorem c8_59_v : opV V8 (.tmp 17) = true := by kernel_rfl
theorem c8_59_s (hw : Cur w) : W Try.prog 113 V8 c8_59 Q e w = (condP (ev e (.tmp 17)) (W Try.prog 113 V8 c8_60 Q e w) (Q .normal e w)) := by rw [(by kernel_rfl : c8_59 = .cond (.tmp 17) c8_60 Code.skip), W_cond, c8_59_v, cond_true]; simp only [W_ret, W_skip, W_exit, W_label]
theorem c8_58_s (hw : Cur w) : W Try.prog 113 V8 c8_58 Q e w = (opsW (nx Try.prog) mv gdP 113 V8 o8_1 (fun e w => W Try.prog 113 V8 c8_59 Q e w) o8_1.toList [] e e w) := by rw [(by kernel_rfl : c8_58 = .seq (.region 1 o8_1 false) c8_59), W_seq_reg]
theorem c8_1_s (hw : Cur w) : W Try.prog 113 V8 c8_1 Q e w = (W Try.prog 113 V8 c8_58 (seqQ (fun e w => W Try.prog 113 V8 c8_2 Q e w) Q) e w) := by rw [(by kernel_rfl : c8_1 = .seq c8_58 c8_2), W_seq]
theorem c8_s (hw : Cur w) : W Try.prog 113 V8 c8 Q e w = (opsW (nx Try.prog) mv gdP 113 V8 o8_0 (fun e w => W Try.prog 113 V8 c8_1 Q e w) o8_0.toList [] e e w) := by rw [(by kernel_rfl : c8 = .seq (.region 0 o8_0 false) c8_1), W_seq_reg]
theorem call8 {a0 a1 : Value} {w : World} {R : Value → World → Prop} (h : W Try.prog 113 V8 c8 (retQ Try.prog [.tmp 4] R) (argE [a0, a1]) w) : CallsN Try.prog 8 [a0, a1] w R :=
  callsN_of_W (c := c8) (rs := [.tmp 4]) V8 Try.ntmps8 (by rw [Try.results8]) mixed Try.func8 (by kernel_rfl) (by kernel_rfl) (by kernel_rfl) (by kernel_rfl) (by simp) h
noncomputable def hk8 := And.intro (@o8_0_eq) <| And.intro (@o8_3_eq) <| And.intro (@o8_14_eq) <| And.intro (@o8_15_eq) <| And.intro (@o8_28_eq) <| And.intro (@c8_8_s) <| And.intro (@o8_16_eq) <| And.intro (@o8_18_eq) <| And.intro (@c8_14_s) <| And.intro (@o8_19_eq) <| And.intro (@o8_22_eq) <| And.intro (@o8_24_eq) <| And.intro (@c8_23_s) <| And.intro (@o8_25_eq) <| And.intro (@o8_26_eq) <| And.intro (@o8_27_eq) <| And.intro (@c8_28_s) <| And.intro (@c8_27_s) <| And.intro (@c8_26_s) <| And.intro (@c8_25_s) <| And.intro (@c8_24_s) <| And.intro (@c8_22_s) <| And.intro (@o8_23_eq) <| And.intro (@c8_30_s) <| And.intro (@c8_29_s) <| And.intro (@c8_21_s) <| And.intro (@c8_20_s) <| And.intro (@c8_19_s) <| And.intro (@c8_18_s) <| And.intro (@o8_20_eq) <| And.intro (@o8_21_eq) <| And.intro (@c8_33_s) <| And.intro (@c8_32_s) <| And.intro (@c8_31_s) <| And.intro (@c8_17_s) <| And.intro (@c8_16_s) <| And.intro (@c8_15_s) <| And.intro (@c8_13_s) <| And.intro (@o8_17_eq) <| And.intro (@c8_35_s) <| And.intro (@c8_34_s) <| And.intro (@c8_12_s) <| And.intro (@c8_11_s) <| And.intro (@c8_10_s) <| And.intro (@c8_9_s) <| And.intro (@c8_7_s) <| And.intro (@c8_6_s) <| And.intro (@c8_5_s) <| And.intro (@o8_8_eq) <| And.intro (@o8_10_eq) <| And.intro (@c8_41_s) <| And.intro (@o8_11_eq) <| And.intro (@o8_12_eq) <| And.intro (@o8_13_eq) <| And.intro (@c8_45_s) <| And.intro (@c8_44_s) <| And.intro (@c8_43_s) <| And.intro (@c8_42_s) <| And.intro (@c8_40_s) <| And.intro (@o8_9_eq) <| And.intro (@c8_47_s) <| And.intro (@c8_46_s) <| And.intro (@c8_39_s) <| And.intro (@c8_38_s) <| And.intro (@c8_37_s) <| And.intro (@c8_36_s) <| And.intro (@c8_4_s) <| And.intro (@o8_4_eq) <| And.intro (@o8_6_eq) <| And.intro (@c8_53_s) <| And.intro (@o8_7_eq) <| And.intro (@c8_55_s) <| And.intro (@c8_54_s) <| And.intro (@c8_52_s) <| And.intro (@o8_5_eq) <| And.intro (@c8_57_s) <| And.intro (@c8_56_s) <| And.intro (@c8_51_s) <| And.intro (@c8_50_s) <| And.intro (@c8_49_s) <| And.intro (@c8_48_s) <| And.intro (@c8_3_s) <| And.intro (@c8_2_s) <| And.intro (@o8_1_eq) <| And.intro (@o8_2_eq) <| And.intro (@c8_60_s) <| And.intro (@c8_59_s) <| And.intro (@c8_58_s) <| And.intro (@c8_1_s) <| @c8_s
-- K8: ↓hk8
/-! ### vouch/vouchlaw07.GapLacks -/
def V11 : Nat → Bool := fun i => [0, 1, 4, 5, 6, 7, 8, 9, 10, 12, 14, 21, 38, 41, 62, 68, 76, 85, 107].elem i
noncomputable def c11 : Code := (Try.f11.body.getD .skip)
noncomputable def o11_0 : Array Oper := rO (cL c11)
noncomputable def c11_1 : Code := (cR c11)
noncomputable def c11_2 : Code := (cR c11_1)
noncomputable def o11_3 : Array Oper := rO (cL c11_2)
noncomputable def c11_3 : Code := (cR c11_2)
noncomputable def c11_4 : Code := (cR c11_3)
noncomputable def o11_24 : Array Oper := rO (cL c11_4)
noncomputable def c11_5 : Code := (cL c11_3)
noncomputable def o11_4 : Array Oper := rO (cL c11_5)
noncomputable def c11_6 : Code := (cR c11_5)
noncomputable def c11_7 : Code := (cL c11_6)
noncomputable def c11_8 : Code := (cL c11_7)
noncomputable def c11_9 : Code := (cR c11_8)
noncomputable def c11_10 : Code := (cR c11_9)
noncomputable def o11_6 : Array Oper := rO c11_10
noncomputable def c11_11 : Code := (cL c11_9)
noncomputable def c11_12 : Code := (cL c11_11)
noncomputable def o11_7 : Array Oper := rO (cL c11_12)
noncomputable def c11_13 : Code := (cR c11_12)
noncomputable def o11_8 : Array Oper := rO (cL c11_13)
noncomputable def c11_14 : Code := (cR c11_13)
noncomputable def c11_15 : Code := (cR c11_14)
noncomputable def c11_16 : Code := (cR c11_15)
noncomputable def c11_17 : Code := (cR c11_16)
noncomputable def o11_15 : Array Oper := rO (cL c11_17)
noncomputable def c11_18 : Code := (cR c11_17)
noncomputable def c11_19 : Code := (cR c11_18)
noncomputable def o11_22 : Array Oper := rO (cL c11_19)
noncomputable def c11_20 : Code := (cR c11_19)
noncomputable def c11_21 : Code := (cL c11_20)
noncomputable def o11_23 : Array Oper := rO (cL c11_21)
noncomputable def c11_22 : Code := (cL c11_18)
noncomputable def o11_16 : Array Oper := rO (cL c11_22)
noncomputable def c11_23 : Code := (cR c11_22)
noncomputable def c11_24 : Code := (cL c11_23)
noncomputable def c11_25 : Code := (cL c11_24)
noncomputable def c11_26 : Code := (cR c11_25)
noncomputable def c11_27 : Code := (cR c11_26)
noncomputable def o11_18 : Array Oper := rO c11_27
noncomputable def c11_28 : Code := (cL c11_26)
noncomputable def c11_29 : Code := (cL c11_28)
noncomputable def o11_19 : Array Oper := rO (cL c11_29)
noncomputable def c11_30 : Code := (cR c11_29)
noncomputable def o11_20 : Array Oper := rO (cL c11_30)
noncomputable def c11_31 : Code := (cR c11_30)
noncomputable def c11_32 : Code := (cL c11_31)
noncomputable def o11_21 : Array Oper := rO (cL c11_32)
noncomputable def c11_33 : Code := (cL c11_25)
noncomputable def o11_17 : Array Oper := rO (cL c11_33)
noncomputable def c11_34 : Code := (cR c11_33)
noncomputable def c11_35 : Code := (cL c11_16)
noncomputable def o11_14 : Array Oper := rO (cL c11_35)
noncomputable def c11_36 : Code := (cR c11_35)
noncomputable def c11_37 : Code := (cL c11_15)
noncomputable def o11_12 : Array Oper := rO (cL c11_37)
noncomputable def c11_38 : Code := (cR c11_37)
noncomputable def c11_39 : Code := (cL c11_38)
noncomputable def o11_13 : Array Oper := rO (cL c11_39)
noncomputable def c11_40 : Code := (cL c11_14)
noncomputable def o11_9 : Array Oper := rO (cL c11_40)
noncomputable def c11_41 : Code := (cR c11_40)
noncomputable def c11_42 : Code := (cL c11_41)
noncomputable def c11_43 : Code := (cL c11_42)
noncomputable def o11_10 : Array Oper := rO (cL c11_43)
noncomputable def c11_44 : Code := (cR c11_43)
noncomputable def c11_45 : Code := (cL c11_44)
noncomputable def o11_11 : Array Oper := rO (cL c11_45)
noncomputable def c11_46 : Code := (cL c11_8)
noncomputable def o11_5 : Array Oper := rO (cL c11_46)
noncomputable def c11_47 : Code := (cR c11_46)
noncomputable def c11_48 : Code := (cL c11_1)
noncomputable def o11_1 : Array Oper := rO (cL c11_48)
noncomputable def c11_49 : Code := (cR c11_48)
noncomputable def c11_50 : Code := (cL c11_49)
noncomputable def o11_2 : Array Oper := rO (cL c11_50)
theorem o11_0_eq : opsW N M G 108 V11 o11_0 k o11_0.toList [] e e w =
    (M (Value.bool false) fun t4 =>
    k (Env.p e 4 t4) w) := nr (by kernel_rfl)
theorem o11_3_eq : opsW N M G 108 V11 o11_3 k o11_3.toList [] e e w =
    (M (e 0) fun t15 =>
    N (xv (convert 5 3 t15)) w fun t16 w =>
    N (xcall (Value.func (Fn.func 30) #[] #[]) [(Value.int IntKind.i64 10), t16]) w fun t17 w =>
    M t17 fun t5 =>
    k (Env.p e 5 t5) w) := nr (by kernel_rfl)
theorem o11_24_eq : opsW N M G 108 V11 o11_24 k o11_24.toList [] e e w =
    (M (Value.bool true) fun t4 =>
    k (Env.p e 4 t4) w) := nr (by kernel_rfl)
theorem c11_4_s (hw : Cur w) : W Try.prog 108 V11 c11_4 Q e w = (opsW (nx Try.prog) mv gdP 108 V11 o11_24 (fun e w => Q .ret e w) o11_24.toList [] e e w) := by rw [(by kernel_rfl : c11_4 = .seq (.region 24 o11_24 false) Code.ret), W_seq_reg]; simp only [W_ret, W_skip, W_exit, W_label]
theorem o11_4_eq : opsW N M G 108 V11 o11_4 k o11_4.toList [] e e w =
    (M (Value.int IntKind.i64 0) fun t6 =>
    k (Env.p e 6 t6) w) := nr (by kernel_rfl)
theorem o11_6_eq : opsW N M G 108 V11 o11_6 k o11_6.toList [] e e w =
    (M (e 6) fun t22 =>
    N (xv (xbin BinOp.add 3 (Operand.tmp 22) (Operand.const (Value.int IntKind.i64 1)) t22 (Value.int IntKind.i64 1))) w fun t23 w =>
    M t23 fun t6 =>
    k (Env.p e 6 t6) w) := nr (by kernel_rfl)
theorem c11_10_s (hw : Cur w) : W Try.prog 108 V11 c11_10 Q e w = (opsW (nx Try.prog) mv gdP 108 V11 o11_6 (fun e w => Q .normal e w) o11_6.toList [] e e w) := by rw [(by kernel_rfl : c11_10 = (.region 6 o11_6 false)), W_reg]
theorem o11_7_eq : opsW N M G 108 V11 o11_7 k o11_7.toList [] e e w =
    (M (e 5) fun t24 =>
    M (e 1) fun t25 =>
    M (e 6) fun t26 =>
    N (xv (Instr.indexAt 64 t25 t26)) w fun t27 w =>
    N (xv (Instr.loadAt 67 t27)) w fun t28 w =>
    N (xv (convert 67 2 t28)) w fun t29 w =>
    M (e 6) fun t30 =>
    N (xcall (Value.func (Fn.func 31) #[] #[]) [t24, t29, t30]) w fun t31 w =>
    k e w) := nr (by kernel_rfl)
theorem o11_8_eq : opsW N M G 108 V11 o11_8 k o11_8.toList [] e e w =
    (M (e 5) fun t32 =>
    N (xcall (Value.func (Fn.func 32) #[] #[]) [t32]) w fun t33 w =>
    M (e 5) fun t34 =>
    N (xcall (Value.func (Fn.func 43) #[] #[]) [t34]) w fun t35 w =>
    N (xv (Instr.alloc 86 true (.tuple #[]))) w fun t8 w =>
    M t33 fun t7 =>
    N (xu (Instr.storeAt 86 t8 t35)) w fun _ w =>
    k (Env.p (Env.p e 8 t8) 7 t7) w) := nr (by kernel_rfl)
theorem o11_15_eq : opsW N M G 108 V11 o11_15 k o11_15.toList [] e e w =
    (M (e 5) fun t69 =>
    N (xcall (Value.func (Fn.func 45) #[] #[]) [t69]) w fun t70 w =>
    M t70 fun t9 =>
    k (Env.p e 9 t9) w) := nr (by kernel_rfl)
theorem o11_22_eq : drawGo N T M G H 108 V11 o11_22 S k o11_22.size true (Array.replicate o11_22.size false) [] e e w =
    (M (e 9) fun t86 =>
    M (e 7) fun t88 =>
    T (xv (Instr.indexAt 71 t88 (Value.int IntKind.i64 0))) fun t89 =>
    T (xv (Instr.loadAt 2 t89)) fun t90 =>
    N (xcall (Value.func (Fn.func 33) #[] #[]) [t86]) w fun t87 w =>
    S w ∧ (T (xv (xbin BinOp.lss 2 (Operand.tmp 87) (Operand.tmp 90) t87 t90)) fun t91 =>
    M t91 fun t92 =>
    H (isB t92 false) (fun K => M (e 9) K) (fun t93 =>
    H (isB t92 false) (fun K => M (e 7) K) (fun t96 =>
    H (isB t92 false) (fun K => T (builtin Builtin.len #[71] 3 ([false]).toArray ([t96]).toArray) K) (fun t97 =>
    G (isB t92 false) (fun K => N (xcall (Value.func (Fn.func 32) #[] #[]) [t93]) w K) (fun t94 w =>
    S w ∧ (H (isB t92 false) (fun K => T (builtin Builtin.len #[71] 3 ([false]).toArray ([t94]).toArray) K) (fun t95 =>
    H (isB t92 false) (fun K => T (xv (xbin BinOp.geq 3 (Operand.tmp 95) (Operand.tmp 97) t95 t97)) K) (fun t98 =>
    T (xpick t92 (Value.bool true) t98) fun t99 =>
    M t99 fun t100 =>
    H (isB t100 false) (fun K => M (e 5) K) (fun t101 =>
    H (isB t100 false) (fun K => T (xv (Instr.fieldAt 86 (e 8) 0)) K) (fun t103 =>
    H (isB t100 false) (fun K => T (xv (Instr.loadAt 2 t103)) K) (fun t104 =>
    H (isB t100 false) (fun K => T (xv (xbin BinOp.sub 2 (Operand.tmp 104) (Operand.const (Value.int IntKind.i64 1)) t104 (Value.int IntKind.i64 1))) K) (fun t105 =>
    G (isB t100 false) (fun K => N (xcall (Value.func (Fn.func 33) #[] #[]) [t101]) w K) (fun t102 w =>
    S w ∧ (H (isB t100 false) (fun K => T (xv (xbin BinOp.neq 2 (Operand.tmp 102) (Operand.tmp 105) t102 t105)) K) (fun t106 =>
    T (xpick t100 (Value.bool true) t106) fun t107 =>
    k (Env.p e 107 t107) w))) w)))))))) w))))) := nr (by kernel_rfl)
theorem o11_23_eq : opsW N M G 108 V11 o11_23 k o11_23.toList [] e e w =
    (M (Value.bool false) fun t4 =>
    k (Env.p e 4 t4) w) := nr (by kernel_rfl)
theorem c11_21_s (hw : Cur w) : W Try.prog 108 V11 c11_21 Q e w = (opsW (nx Try.prog) mv gdP 108 V11 o11_23 (fun e w => Q .ret e w) o11_23.toList [] e e w) := by rw [(by kernel_rfl : c11_21 = .seq (.region 23 o11_23 false) Code.ret), W_seq_reg]; simp only [W_ret, W_skip, W_exit, W_label]
theorem c11_20_v : opV V11 (.tmp 107) = true := by kernel_rfl
theorem c11_20_s (hw : Cur w) : W Try.prog 108 V11 c11_20 Q e w = (condP (ev e (.tmp 107)) (W Try.prog 108 V11 c11_21 Q e w) (Q .normal e w)) := by rw [(by kernel_rfl : c11_20 = .cond (.tmp 107) c11_21 Code.skip), W_cond, c11_20_v, cond_true]; simp only [W_ret, W_skip, W_exit, W_label]
theorem c11_19_s (hw : Cur w) : W Try.prog 108 V11 c11_19 Q e w = (∃ S : World → Prop, S w.drew ∧ drawGo (nx Try.prog) (takeP Try.prog S) mv gdP gdT 108 V11 o11_22 S (fun e w => W Try.prog 108 V11 c11_20 Q e w) o11_22.size true (Array.replicate o11_22.size false) [] e e w.drew) := by rw [(by kernel_rfl : c11_19 = .seq (.region 22 o11_22 true) c11_20), W_seq_regD]
theorem o11_16_eq : opsW N M G 108 V11 o11_16 k o11_16.toList [] e e w =
    (N (xv (Instr.fieldAt 86 (e 8) 0)) w fun t71 w =>
    N (xv (Instr.loadAt 2 t71)) w fun t72 w =>
    M t72 fun t10 =>
    k (Env.p e 10 t10) w) := nr (by kernel_rfl)
theorem o11_18_eq : opsW N M G 108 V11 o11_18 k o11_18.toList [] e e w =
    (M (e 10) fun t77 =>
    N (xv (xbin BinOp.add 2 (Operand.tmp 77) (Operand.const (Value.int IntKind.i64 1)) t77 (Value.int IntKind.i64 1))) w fun t78 w =>
    M t78 fun t10 =>
    k (Env.p e 10 t10) w) := nr (by kernel_rfl)
theorem c11_27_s (hw : Cur w) : W Try.prog 108 V11 c11_27 Q e w = (opsW (nx Try.prog) mv gdP 108 V11 o11_18 (fun e w => Q .normal e w) o11_18.toList [] e e w) := by rw [(by kernel_rfl : c11_27 = (.region 18 o11_18 false)), W_reg]
theorem o11_19_eq : opsW N M G 108 V11 o11_19 k o11_19.toList [] e e w =
    (M (e 9) fun t80 =>
    M (e 10) fun t81 =>
    N (xcall (Value.func (Fn.func 31) #[] #[]) [t80, t81, (Value.int IntKind.i64 (-1))]) w fun t82 w =>
    M t82 fun t79 =>
    N (xv (Instr.extract t79 0)) w fun t83 w =>
    N (xv (Instr.extract t79 1)) w fun t84 w =>
    M t83 fun t11 =>
    M t84 fun t12 =>
    k (Env.p e 12 t12) w) := nr (by kernel_rfl)
theorem o11_20_eq : opsW N M G 108 V11 o11_20 k o11_20.toList [] e e w =
    (M (e 12) fun t85 =>
    k (Env.p e 85 t85) w) := nr (by kernel_rfl)
theorem o11_21_eq : opsW N M G 108 V11 o11_21 k o11_21.toList [] e e w =
    (M (Value.bool false) fun t4 =>
    k (Env.p e 4 t4) w) := nr (by kernel_rfl)
theorem c11_32_s (hw : Cur w) : W Try.prog 108 V11 c11_32 Q e w = (opsW (nx Try.prog) mv gdP 108 V11 o11_21 (fun e w => Q .ret e w) o11_21.toList [] e e w) := by rw [(by kernel_rfl : c11_32 = .seq (.region 21 o11_21 false) Code.ret), W_seq_reg]; simp only [W_ret, W_skip, W_exit, W_label]
theorem c11_31_v : opV V11 (.tmp 85) = true := by kernel_rfl
theorem c11_31_s (hw : Cur w) : W Try.prog 108 V11 c11_31 Q e w = (condP (ev e (.tmp 85)) (W Try.prog 108 V11 c11_32 Q e w) (Q .normal e w)) := by rw [(by kernel_rfl : c11_31 = .cond (.tmp 85) c11_32 Code.skip), W_cond, c11_31_v, cond_true]; simp only [W_ret, W_skip, W_exit, W_label]
theorem c11_30_s (hw : Cur w) : W Try.prog 108 V11 c11_30 Q e w = (opsW (nx Try.prog) mv gdP 108 V11 o11_20 (fun e w => W Try.prog 108 V11 c11_31 Q e w) o11_20.toList [] e e w) := by rw [(by kernel_rfl : c11_30 = .seq (.region 20 o11_20 false) c11_31), W_seq_reg]
theorem c11_29_s (hw : Cur w) : W Try.prog 108 V11 c11_29 Q e w = (opsW (nx Try.prog) mv gdP 108 V11 o11_19 (fun e w => W Try.prog 108 V11 c11_30 Q e w) o11_19.toList [] e e w) := by rw [(by kernel_rfl : c11_29 = .seq (.region 19 o11_19 false) c11_30), W_seq_reg]
theorem c11_28_s (hw : Cur w) : W Try.prog 108 V11 c11_28 Q e w = (W Try.prog 108 V11 c11_29 (blockQ 3 Q) e w) := by rw [(by kernel_rfl : c11_28 = .block 3 c11_29), W_block]
theorem c11_26_s (hw : Cur w) : W Try.prog 108 V11 c11_26 Q e w = (W Try.prog 108 V11 c11_28 (seqQ (fun e w => W Try.prog 108 V11 c11_27 Q e w) Q) e w) := by rw [(by kernel_rfl : c11_26 = .seq c11_28 c11_27), W_seq]
theorem o11_17_eq : opsW N M G 108 V11 o11_17 k o11_17.toList [] e e w =
    (M (e 10) fun t73 =>
    N (xv (Instr.fieldAt 86 (e 8) 1)) w fun t74 w =>
    N (xv (Instr.loadAt 2 t74)) w fun t75 w =>
    N (xv (xbin BinOp.lss 2 (Operand.tmp 73) (Operand.tmp 75) t73 t75)) w fun t76 w =>
    k (Env.p e 76 t76) w) := nr (by kernel_rfl)
theorem c11_34_v : opV V11 (.tmp 76) = true := by kernel_rfl
theorem c11_34_s (hw : Cur w) : W Try.prog 108 V11 c11_34 Q e w = (condP (ev e (.tmp 76)) (Q .normal e w) (Q (.exit 2) e w)) := by rw [(by kernel_rfl : c11_34 = .cond (.tmp 76) Code.skip (Code.exit 2)), W_cond, c11_34_v, cond_true]; simp only [W_ret, W_skip, W_exit, W_label]
theorem c11_33_s (hw : Cur w) : W Try.prog 108 V11 c11_33 Q e w = (opsW (nx Try.prog) mv gdP 108 V11 o11_17 (fun e w => W Try.prog 108 V11 c11_34 Q e w) o11_17.toList [] e e w) := by rw [(by kernel_rfl : c11_33 = .seq (.region 17 o11_17 false) c11_34), W_seq_reg]
theorem c11_25_s (hw : Cur w) : W Try.prog 108 V11 c11_25 Q e w = (W Try.prog 108 V11 c11_33 (seqQ (fun e w => W Try.prog 108 V11 c11_26 Q e w) Q) e w) := by rw [(by kernel_rfl : c11_25 = .seq c11_33 c11_26), W_seq]
theorem c11_24_s (hw : Cur w) : W Try.prog 108 V11 c11_24 Q e w = (LoopP (fun e w k => W Try.prog 108 V11 c11_25 (seqQ k Q) e w) e w) := by rw [(by kernel_rfl : c11_24 = .loop c11_25), W_loop]
theorem c11_23_s (hw : Cur w) : W Try.prog 108 V11 c11_23 Q e w = (W Try.prog 108 V11 c11_24 (blockQ 2 Q) e w) := by rw [(by kernel_rfl : c11_23 = .block 2 c11_24), W_block]
theorem c11_22_s (hw : Cur w) : W Try.prog 108 V11 c11_22 Q e w = (opsW (nx Try.prog) mv gdP 108 V11 o11_16 (fun e w => W Try.prog 108 V11 c11_23 Q e w) o11_16.toList [] e e w) := by rw [(by kernel_rfl : c11_22 = .seq (.region 16 o11_16 false) c11_23), W_seq_reg]
theorem c11_18_s (hw : Cur w) : W Try.prog 108 V11 c11_18 Q e w = (W Try.prog 108 V11 c11_22 (seqQ (fun e w => W Try.prog 108 V11 c11_19 Q e w) Q) e w) := by rw [(by kernel_rfl : c11_18 = .seq c11_22 c11_19), W_seq]
theorem c11_17_s (hw : Cur w) : W Try.prog 108 V11 c11_17 Q e w = (opsW (nx Try.prog) mv gdP 108 V11 o11_15 (fun e w => W Try.prog 108 V11 c11_18 Q e w) o11_15.toList [] e e w) := by rw [(by kernel_rfl : c11_17 = .seq (.region 15 o11_15 false) c11_18), W_seq_reg]
theorem o11_14_eq : opsW N M G 108 V11 o11_14 k o11_14.toList [] e e w =
    (N (xv (Instr.fieldAt 86 (e 8) 1)) w fun t63 w =>
    N (xv (Instr.loadAt 2 t63)) w fun t64 w =>
    N (xv (Instr.fieldAt 86 (e 8) 0)) w fun t65 w =>
    N (xv (Instr.loadAt 2 t65)) w fun t66 w =>
    N (xv (xbin BinOp.sub 2 (Operand.tmp 64) (Operand.tmp 66) t64 t66)) w fun t67 w =>
    N (xv (xbin BinOp.gtr 2 (Operand.tmp 67) (Operand.const (Value.int IntKind.i64 200)) t67 (Value.int IntKind.i64 200))) w fun t68 w =>
    k (Env.p e 68 t68) w) := nr (by kernel_rfl)
theorem c11_36_v : opV V11 (.tmp 68) = true := by kernel_rfl
theorem c11_36_s (hw : Cur w) : W Try.prog 108 V11 c11_36 Q e w = (condP (ev e (.tmp 68)) (Q (.exit 1) e w) (Q .normal e w)) := by rw [(by kernel_rfl : c11_36 = .cond (.tmp 68) (Code.exit 1) Code.skip), W_cond, c11_36_v, cond_true]; simp only [W_ret, W_skip, W_exit, W_label]
theorem c11_35_s (hw : Cur w) : W Try.prog 108 V11 c11_35 Q e w = (opsW (nx Try.prog) mv gdP 108 V11 o11_14 (fun e w => W Try.prog 108 V11 c11_36 Q e w) o11_14.toList [] e e w) := by rw [(by kernel_rfl : c11_35 = .seq (.region 14 o11_14 false) c11_36), W_seq_reg]
theorem c11_16_s (hw : Cur w) : W Try.prog 108 V11 c11_16 Q e w = (W Try.prog 108 V11 c11_35 (seqQ (fun e w => W Try.prog 108 V11 c11_17 Q e w) Q) e w) := by rw [(by kernel_rfl : c11_16 = .seq c11_35 c11_17), W_seq]
theorem o11_12_eq : drawGo N T M G H 108 V11 o11_12 S k o11_12.size true (Array.replicate o11_12.size false) [] e e w =
    (T (xv (Instr.fieldAt 86 (e 8) 0)) fun t42 =>
    T (xv (Instr.loadAt 2 t42)) fun t43 =>
    M (e 5) fun t44 =>
    N (xcall (Value.func (Fn.func 33) #[] #[]) [t44]) w fun t45 w =>
    S w ∧ (T (xv (xbin BinOp.add 2 (Operand.tmp 45) (Operand.const (Value.int IntKind.i64 1)) t45 (Value.int IntKind.i64 1))) fun t46 =>
    T (xv (xbin BinOp.neq 2 (Operand.tmp 43) (Operand.tmp 46) t43 t46)) fun t47 =>
    M t47 fun t48 =>
    H (isB t48 false) (fun K => T (xv (Instr.fieldAt 86 (e 8) 1)) K) (fun t49 =>
    H (isB t48 false) (fun K => T (xv (Instr.loadAt 2 t49)) K) (fun t50 =>
    H (isB t48 false) (fun K => M (e 7) K) (fun t51 =>
    H (isB t48 false) (fun K => T (xv (Instr.indexAt 71 t51 (Value.int IntKind.i64 0))) K) (fun t52 =>
    H (isB t48 false) (fun K => T (xv (Instr.loadAt 2 t52)) K) (fun t53 =>
    H (isB t48 false) (fun K => T (xv (xbin BinOp.neq 2 (Operand.tmp 50) (Operand.tmp 53) t50 t53)) K) (fun t54 =>
    T (xpick t48 (Value.bool true) t54) fun t55 =>
    M t55 fun t56 =>
    H (isB t56 false) (fun K => T (xv (Instr.fieldAt 86 (e 8) 0)) K) (fun t57 =>
    H (isB t56 false) (fun K => T (xv (Instr.loadAt 2 t57)) K) (fun t58 =>
    H (isB t56 false) (fun K => T (xv (Instr.fieldAt 86 (e 8) 1)) K) (fun t59 =>
    H (isB t56 false) (fun K => T (xv (Instr.loadAt 2 t59)) K) (fun t60 =>
    H (isB t56 false) (fun K => T (xv (xbin BinOp.geq 2 (Operand.tmp 58) (Operand.tmp 60) t58 t60)) K) (fun t61 =>
    T (xpick t56 (Value.bool true) t61) fun t62 =>
    k (Env.p e 62 t62) w))))))))))))) := nr (by kernel_rfl)
theorem o11_13_eq : opsW N M G 108 V11 o11_13 k o11_13.toList [] e e w =
    (M (Value.bool false) fun t4 =>
    k (Env.p e 4 t4) w) := nr (by kernel_rfl)
theorem c11_39_s (hw : Cur w) : W Try.prog 108 V11 c11_39 Q e w = (opsW (nx Try.prog) mv gdP 108 V11 o11_13 (fun e w => Q .ret e w) o11_13.toList [] e e w) := by rw [(by kernel_rfl : c11_39 = .seq (.region 13 o11_13 false) Code.ret), W_seq_reg]; simp only [W_ret, W_skip, W_exit, W_label]
theorem c11_38_v : opV V11 (.tmp 62) = true := by kernel_rfl
theorem c11_38_s (hw : Cur w) : W Try.prog 108 V11 c11_38 Q e w = (condP (ev e (.tmp 62)) (W Try.prog 108 V11 c11_39 Q e w) (Q .normal e w)) := by rw [(by kernel_rfl : c11_38 = .cond (.tmp 62) c11_39 Code.skip), W_cond, c11_38_v, cond_true]; simp only [W_ret, W_skip, W_exit, W_label]
theorem c11_37_s (hw : Cur w) : W Try.prog 108 V11 c11_37 Q e w = (∃ S : World → Prop, S w.drew ∧ drawGo (nx Try.prog) (takeP Try.prog S) mv gdP gdT 108 V11 o11_12 S (fun e w => W Try.prog 108 V11 c11_38 Q e w) o11_12.size true (Array.replicate o11_12.size false) [] e e w.drew) := by rw [(by kernel_rfl : c11_37 = .seq (.region 12 o11_12 true) c11_38), W_seq_regD]
theorem c11_15_s (hw : Cur w) : W Try.prog 108 V11 c11_15 Q e w = (W Try.prog 108 V11 c11_37 (seqQ (fun e w => W Try.prog 108 V11 c11_16 Q e w) Q) e w) := by rw [(by kernel_rfl : c11_15 = .seq c11_37 c11_16), W_seq]
theorem o11_9_eq : opsW N M G 108 V11 o11_9 k o11_9.toList [] e e w =
    (M (e 7) fun t36 =>
    N (builtin Builtin.len #[71] 3 ([false]).toArray ([t36]).toArray) w fun t37 w =>
    N (xv (xbin BinOp.eql 3 (Operand.tmp 37) (Operand.const (Value.int IntKind.i64 0)) t37 (Value.int IntKind.i64 0))) w fun t38 w =>
    k (Env.p e 38 t38) w) := nr (by kernel_rfl)
theorem o11_10_eq : opsW N M G 108 V11 o11_10 k o11_10.toList [] e e w =
    (N (xv (Instr.loadAt 86 (e 8))) w fun t39 w =>
    N (xcall (Value.func (Fn.func 44) #[] #[]) [t39]) w fun t40 w =>
    N (xv (Op.unary UnOp.not t40)) w fun t41 w =>
    k (Env.p e 41 t41) w) := nr (by kernel_rfl)
theorem o11_11_eq : opsW N M G 108 V11 o11_11 k o11_11.toList [] e e w =
    (M (Value.bool false) fun t4 =>
    k (Env.p e 4 t4) w) := nr (by kernel_rfl)
theorem c11_45_s (hw : Cur w) : W Try.prog 108 V11 c11_45 Q e w = (opsW (nx Try.prog) mv gdP 108 V11 o11_11 (fun e w => Q .ret e w) o11_11.toList [] e e w) := by rw [(by kernel_rfl : c11_45 = .seq (.region 11 o11_11 false) Code.ret), W_seq_reg]; simp only [W_ret, W_skip, W_exit, W_label]
theorem c11_44_v : opV V11 (.tmp 41) = true := by kernel_rfl
theorem c11_44_s (hw : Cur w) : W Try.prog 108 V11 c11_44 Q e w = (condP (ev e (.tmp 41)) (W Try.prog 108 V11 c11_45 Q e w) (Q .normal e w)) := by rw [(by kernel_rfl : c11_44 = .cond (.tmp 41) c11_45 Code.skip), W_cond, c11_44_v, cond_true]; simp only [W_ret, W_skip, W_exit, W_label]
theorem c11_43_s (hw : Cur w) : W Try.prog 108 V11 c11_43 Q e w = (opsW (nx Try.prog) mv gdP 108 V11 o11_10 (fun e w => W Try.prog 108 V11 c11_44 Q e w) o11_10.toList [] e e w) := by rw [(by kernel_rfl : c11_43 = .seq (.region 10 o11_10 false) c11_44), W_seq_reg]
theorem c11_42_s (hw : Cur w) : W Try.prog 108 V11 c11_42 Q e w = (W Try.prog 108 V11 c11_43 (seqQ (fun e w => Q (.exit 1) e w) Q) e w) := by rw [(by kernel_rfl : c11_42 = .seq c11_43 (Code.exit 1)), W_seq]; simp only [W_ret, W_skip, W_exit, W_label]
theorem c11_41_v : opV V11 (.tmp 38) = true := by kernel_rfl
theorem c11_41_s (hw : Cur w) : W Try.prog 108 V11 c11_41 Q e w = (condP (ev e (.tmp 38)) (W Try.prog 108 V11 c11_42 Q e w) (Q .normal e w)) := by rw [(by kernel_rfl : c11_41 = .cond (.tmp 38) c11_42 Code.skip), W_cond, c11_41_v, cond_true]; simp only [W_ret, W_skip, W_exit, W_label]
theorem c11_40_s (hw : Cur w) : W Try.prog 108 V11 c11_40 Q e w = (opsW (nx Try.prog) mv gdP 108 V11 o11_9 (fun e w => W Try.prog 108 V11 c11_41 Q e w) o11_9.toList [] e e w) := by rw [(by kernel_rfl : c11_40 = .seq (.region 9 o11_9 false) c11_41), W_seq_reg]
theorem c11_14_s (hw : Cur w) : W Try.prog 108 V11 c11_14 Q e w = (W Try.prog 108 V11 c11_40 (seqQ (fun e w => W Try.prog 108 V11 c11_15 Q e w) Q) e w) := by rw [(by kernel_rfl : c11_14 = .seq c11_40 c11_15), W_seq]
theorem c11_13_s (hw : Cur w) : W Try.prog 108 V11 c11_13 Q e w = (opsW (nx Try.prog) mv gdP 108 V11 o11_8 (fun e w => W Try.prog 108 V11 c11_14 Q e w) o11_8.toList [] e e w) := by rw [(by kernel_rfl : c11_13 = .seq (.region 8 o11_8 false) c11_14), W_seq_reg]
theorem c11_12_s (hw : Cur w) : W Try.prog 108 V11 c11_12 Q e w = (opsW (nx Try.prog) mv gdP 108 V11 o11_7 (fun e w => W Try.prog 108 V11 c11_13 Q e w) o11_7.toList [] e e w) := by rw [(by kernel_rfl : c11_12 = .seq (.region 7 o11_7 false) c11_13), W_seq_reg]
theorem c11_11_s (hw : Cur w) : W Try.prog 108 V11 c11_11 Q e w = (W Try.prog 108 V11 c11_12 (blockQ 1 Q) e w) := by rw [(by kernel_rfl : c11_11 = .block 1 c11_12), W_block]
theorem c11_9_s (hw : Cur w) : W Try.prog 108 V11 c11_9 Q e w = (W Try.prog 108 V11 c11_11 (seqQ (fun e w => W Try.prog 108 V11 c11_10 Q e w) Q) e w) := by rw [(by kernel_rfl : c11_9 = .seq c11_11 c11_10), W_seq]
theorem o11_5_eq : opsW N M G 108 V11 o11_5 k o11_5.toList [] e e w =
    (M (e 6) fun t18 =>
    M (e 1) fun t19 =>
    N (builtin Builtin.len #[64] 3 ([false]).toArray ([t19]).toArray) w fun t20 w =>
    N (xv (xbin BinOp.lss 3 (Operand.tmp 18) (Operand.tmp 20) t18 t20)) w fun t21 w =>
    k (Env.p e 21 t21) w) := nr (by kernel_rfl)
theorem c11_47_v : opV V11 (.tmp 21) = true := by kernel_rfl
theorem c11_47_s (hw : Cur w) : W Try.prog 108 V11 c11_47 Q e w = (condP (ev e (.tmp 21)) (Q .normal e w) (Q (.exit 0) e w)) := by rw [(by kernel_rfl : c11_47 = .cond (.tmp 21) Code.skip (Code.exit 0)), W_cond, c11_47_v, cond_true]; simp only [W_ret, W_skip, W_exit, W_label]
theorem c11_46_s (hw : Cur w) : W Try.prog 108 V11 c11_46 Q e w = (opsW (nx Try.prog) mv gdP 108 V11 o11_5 (fun e w => W Try.prog 108 V11 c11_47 Q e w) o11_5.toList [] e e w) := by rw [(by kernel_rfl : c11_46 = .seq (.region 5 o11_5 false) c11_47), W_seq_reg]
theorem c11_8_s (hw : Cur w) : W Try.prog 108 V11 c11_8 Q e w = (W Try.prog 108 V11 c11_46 (seqQ (fun e w => W Try.prog 108 V11 c11_9 Q e w) Q) e w) := by rw [(by kernel_rfl : c11_8 = .seq c11_46 c11_9), W_seq]
theorem c11_7_s (hw : Cur w) : W Try.prog 108 V11 c11_7 Q e w = (LoopP (fun e w k => W Try.prog 108 V11 c11_8 (seqQ k Q) e w) e w) := by rw [(by kernel_rfl : c11_7 = .loop c11_8), W_loop]
theorem c11_6_s (hw : Cur w) : W Try.prog 108 V11 c11_6 Q e w = (W Try.prog 108 V11 c11_7 (blockQ 0 Q) e w) := by rw [(by kernel_rfl : c11_6 = .block 0 c11_7), W_block]
theorem c11_5_s (hw : Cur w) : W Try.prog 108 V11 c11_5 Q e w = (opsW (nx Try.prog) mv gdP 108 V11 o11_4 (fun e w => W Try.prog 108 V11 c11_6 Q e w) o11_4.toList [] e e w) := by rw [(by kernel_rfl : c11_5 = .seq (.region 4 o11_4 false) c11_6), W_seq_reg]
theorem c11_3_s (hw : Cur w) : W Try.prog 108 V11 c11_3 Q e w = (W Try.prog 108 V11 c11_5 (seqQ (fun e w => W Try.prog 108 V11 c11_4 Q e w) Q) e w) := by rw [(by kernel_rfl : c11_3 = .seq c11_5 c11_4), W_seq]
theorem c11_2_s (hw : Cur w) : W Try.prog 108 V11 c11_2 Q e w = (opsW (nx Try.prog) mv gdP 108 V11 o11_3 (fun e w => W Try.prog 108 V11 c11_3 Q e w) o11_3.toList [] e e w) := by rw [(by kernel_rfl : c11_2 = .seq (.region 3 o11_3 false) c11_3), W_seq_reg]
theorem o11_1_eq : opsW N M G 108 V11 o11_1 k o11_1.toList [] e e w =
    (N (xcall (Value.func (Fn.func 25) #[] #[]) []) w fun t13 w =>
    N (xv (Op.unary UnOp.not t13)) w fun t14 w =>
    k (Env.p e 14 t14) w) := nr (by kernel_rfl)
theorem o11_2_eq : opsW N M G 108 V11 o11_2 k o11_2.toList [] e e w =
    (M (Value.bool false) fun t4 =>
    k (Env.p e 4 t4) w) := nr (by kernel_rfl)
theorem c11_50_s (hw : Cur w) : W Try.prog 108 V11 c11_50 Q e w = (opsW (nx Try.prog) mv gdP 108 V11 o11_2 (fun e w => Q .ret e w) o11_2.toList [] e e w) := by rw [(by kernel_rfl : c11_50 = .seq (.region 2 o11_2 false) Code.ret), W_seq_reg]; simp only [W_ret, W_skip, W_exit, W_label]
theorem c11_49_v : opV V11 (.tmp 14) = true := by kernel_rfl
theorem c11_49_s (hw : Cur w) : W Try.prog 108 V11 c11_49 Q e w = (condP (ev e (.tmp 14)) (W Try.prog 108 V11 c11_50 Q e w) (Q .normal e w)) := by rw [(by kernel_rfl : c11_49 = .cond (.tmp 14) c11_50 Code.skip), W_cond, c11_49_v, cond_true]; simp only [W_ret, W_skip, W_exit, W_label]
theorem c11_48_s (hw : Cur w) : W Try.prog 108 V11 c11_48 Q e w = (opsW (nx Try.prog) mv gdP 108 V11 o11_1 (fun e w => W Try.prog 108 V11 c11_49 Q e w) o11_1.toList [] e e w) := by rw [(by kernel_rfl : c11_48 = .seq (.region 1 o11_1 false) c11_49), W_seq_reg]
theorem c11_1_s (hw : Cur w) : W Try.prog 108 V11 c11_1 Q e w = (W Try.prog 108 V11 c11_48 (seqQ (fun e w => W Try.prog 108 V11 c11_2 Q e w) Q) e w) := by rw [(by kernel_rfl : c11_1 = .seq c11_48 c11_2), W_seq]
theorem c11_s (hw : Cur w) : W Try.prog 108 V11 c11 Q e w = (opsW (nx Try.prog) mv gdP 108 V11 o11_0 (fun e w => W Try.prog 108 V11 c11_1 Q e w) o11_0.toList [] e e w) := by rw [(by kernel_rfl : c11 = .seq (.region 0 o11_0 false) c11_1), W_seq_reg]
theorem call11 {a0 a1 : Value} {w : World} {R : Value → World → Prop} (h : W Try.prog 108 V11 c11 (retQ Try.prog [.tmp 4] R) (argE [a0, a1]) w) : CallsN Try.prog 11 [a0, a1] w R :=
  callsN_of_W (c := c11) (rs := [.tmp 4]) V11 Try.ntmps11 (by rw [Try.results11]) mixed Try.func11 (by kernel_rfl) (by kernel_rfl) (by kernel_rfl) (by kernel_rfl) (by simp) h
noncomputable def hk11 := And.intro (@o11_0_eq) <| And.intro (@o11_3_eq) <| And.intro (@o11_24_eq) <| And.intro (@c11_4_s) <| And.intro (@o11_4_eq) <| And.intro (@o11_6_eq) <| And.intro (@c11_10_s) <| And.intro (@o11_7_eq) <| And.intro (@o11_8_eq) <| And.intro (@o11_15_eq) <| And.intro (@o11_22_eq) <| And.intro (@o11_23_eq) <| And.intro (@c11_21_s) <| And.intro (@c11_20_s) <| And.intro (@c11_19_s) <| And.intro (@o11_16_eq) <| And.intro (@o11_18_eq) <| And.intro (@c11_27_s) <| And.intro (@o11_19_eq) <| And.intro (@o11_20_eq) <| And.intro (@o11_21_eq) <| And.intro (@c11_32_s) <| And.intro (@c11_31_s) <| And.intro (@c11_30_s) <| And.intro (@c11_29_s) <| And.intro (@c11_28_s) <| And.intro (@c11_26_s) <| And.intro (@o11_17_eq) <| And.intro (@c11_34_s) <| And.intro (@c11_33_s) <| And.intro (@c11_25_s) <| And.intro (@c11_24_s) <| And.intro (@c11_23_s) <| And.intro (@c11_22_s) <| And.intro (@c11_18_s) <| And.intro (@c11_17_s) <| And.intro (@o11_14_eq) <| And.intro (@c11_36_s) <| And.intro (@c11_35_s) <| And.intro (@c11_16_s) <| And.intro (@o11_12_eq) <| And.intro (@o11_13_eq) <| And.intro (@c11_39_s) <| And.intro (@c11_38_s) <| And.intro (@c11_37_s) <| And.intro (@c11_15_s) <| And.intro (@o11_9_eq) <| And.intro (@o11_10_eq) <| And.intro (@o11_11_eq) <| And.intro (@c11_45_s) <| And.intro (@c11_44_s) <| And.intro (@c11_43_s) <| And.intro (@c11_42_s) <| And.intro (@c11_41_s) <| And.intro (@c11_40_s) <| And.intro (@c11_14_s) <| And.intro (@c11_13_s) <| And.intro (@c11_12_s) <| And.intro (@c11_11_s) <| And.intro (@c11_9_s) <| And.intro (@o11_5_eq) <| And.intro (@c11_47_s) <| And.intro (@c11_46_s) <| And.intro (@c11_8_s) <| And.intro (@c11_7_s) <| And.intro (@c11_6_s) <| And.intro (@c11_5_s) <| And.intro (@c11_3_s) <| And.intro (@c11_2_s) <| And.intro (@o11_1_eq) <| And.intro (@o11_2_eq) <| And.intro (@c11_50_s) <| And.intro (@c11_49_s) <| And.intro (@c11_48_s) <| And.intro (@c11_1_s) <| @c11_s
-- K11: ↓hk11
/-! ### vouch/vouchlaw07.waits -/
def V34 : Nat → Bool := fun i => [0, 1, 4, 5, 9, 17].elem i
noncomputable def c34 : Code := (Try.f34.body.getD .skip)
noncomputable def o34_0 : Array Oper := rO (cL c34)
noncomputable def c34_1 : Code := (cR c34)
noncomputable def c34_2 : Code := (cR c34_1)
noncomputable def o34_6 : Array Oper := rO (cL c34_2)
noncomputable def c34_3 : Code := (cL c34_1)
noncomputable def o34_1 : Array Oper := rO (cL c34_3)
noncomputable def c34_4 : Code := (cR c34_3)
noncomputable def c34_5 : Code := (cL c34_4)
noncomputable def c34_6 : Code := (cL c34_5)
noncomputable def c34_7 : Code := (cR c34_6)
noncomputable def c34_8 : Code := (cR c34_7)
noncomputable def o34_3 : Array Oper := rO c34_8
noncomputable def c34_9 : Code := (cL c34_7)
noncomputable def c34_10 : Code := (cL c34_9)
noncomputable def o34_4 : Array Oper := rO (cL c34_10)
noncomputable def c34_11 : Code := (cR c34_10)
noncomputable def c34_12 : Code := (cL c34_11)
noncomputable def o34_5 : Array Oper := rO (cL c34_12)
noncomputable def c34_13 : Code := (cL c34_6)
noncomputable def o34_2 : Array Oper := rO (cL c34_13)
noncomputable def c34_14 : Code := (cR c34_13)
theorem o34_0_eq : opsW N M G 18 V34 o34_0 k o34_0.toList [] e e w =
    (M (Value.bool false) fun t4 =>
    k (Env.p e 4 t4) w) := nr (by kernel_rfl)
theorem o34_6_eq : opsW N M G 18 V34 o34_6 k o34_6.toList [] e e w =
    (M (Value.bool false) fun t4 =>
    k (Env.p e 4 t4) w) := nr (by kernel_rfl)
theorem c34_2_s (hw : Cur w) : W Try.prog 18 V34 c34_2 Q e w = (opsW (nx Try.prog) mv gdP 18 V34 o34_6 (fun e w => Q .ret e w) o34_6.toList [] e e w) := by rw [(by kernel_rfl : c34_2 = .seq (.region 6 o34_6 false) Code.ret), W_seq_reg]; simp only [W_ret, W_skip, W_exit, W_label]
theorem o34_1_eq : opsW N M G 18 V34 o34_1 k o34_1.toList [] e e w =
    (M (Value.int IntKind.i64 0) fun t5 =>
    k (Env.p e 5 t5) w) := nr (by kernel_rfl)
theorem o34_3_eq : opsW N M G 18 V34 o34_3 k o34_3.toList [] e e w =
    (M (e 5) fun t10 =>
    N (xv (xbin BinOp.add 3 (Operand.tmp 10) (Operand.const (Value.int IntKind.i64 1)) t10 (Value.int IntKind.i64 1))) w fun t11 w =>
    M t11 fun t5 =>
    k (Env.p e 5 t5) w) := nr (by kernel_rfl)
theorem c34_8_s (hw : Cur w) : W Try.prog 18 V34 c34_8 Q e w = (opsW (nx Try.prog) mv gdP 18 V34 o34_3 (fun e w => Q .normal e w) o34_3.toList [] e e w) := by rw [(by kernel_rfl : c34_8 = (.region 3 o34_3 false)), W_reg]
theorem o34_4_eq : opsW N M G 18 V34 o34_4 k o34_4.toList [] e e w =
    (M (e 0) fun t12 =>
    M (e 5) fun t13 =>
    N (xv (Instr.indexAt 71 t12 t13)) w fun t14 w =>
    N (xv (Instr.loadAt 2 t14)) w fun t15 w =>
    M (e 1) fun t16 =>
    N (xv (xbin BinOp.eql 2 (Operand.tmp 15) (Operand.tmp 16) t15 t16)) w fun t17 w =>
    k (Env.p e 17 t17) w) := nr (by kernel_rfl)
theorem o34_5_eq : opsW N M G 18 V34 o34_5 k o34_5.toList [] e e w =
    (M (Value.bool true) fun t4 =>
    k (Env.p e 4 t4) w) := nr (by kernel_rfl)
theorem c34_12_s (hw : Cur w) : W Try.prog 18 V34 c34_12 Q e w = (opsW (nx Try.prog) mv gdP 18 V34 o34_5 (fun e w => Q .ret e w) o34_5.toList [] e e w) := by rw [(by kernel_rfl : c34_12 = .seq (.region 5 o34_5 false) Code.ret), W_seq_reg]; simp only [W_ret, W_skip, W_exit, W_label]
theorem c34_11_v : opV V34 (.tmp 17) = true := by kernel_rfl
theorem c34_11_s (hw : Cur w) : W Try.prog 18 V34 c34_11 Q e w = (condP (ev e (.tmp 17)) (W Try.prog 18 V34 c34_12 Q e w) (Q .normal e w)) := by rw [(by kernel_rfl : c34_11 = .cond (.tmp 17) c34_12 Code.skip), W_cond, c34_11_v, cond_true]; simp only [W_ret, W_skip, W_exit, W_label]
theorem c34_10_s (hw : Cur w) : W Try.prog 18 V34 c34_10 Q e w = (opsW (nx Try.prog) mv gdP 18 V34 o34_4 (fun e w => W Try.prog 18 V34 c34_11 Q e w) o34_4.toList [] e e w) := by rw [(by kernel_rfl : c34_10 = .seq (.region 4 o34_4 false) c34_11), W_seq_reg]
theorem c34_9_s (hw : Cur w) : W Try.prog 18 V34 c34_9 Q e w = (W Try.prog 18 V34 c34_10 (blockQ 1 Q) e w) := by rw [(by kernel_rfl : c34_9 = .block 1 c34_10), W_block]
theorem c34_7_s (hw : Cur w) : W Try.prog 18 V34 c34_7 Q e w = (W Try.prog 18 V34 c34_9 (seqQ (fun e w => W Try.prog 18 V34 c34_8 Q e w) Q) e w) := by rw [(by kernel_rfl : c34_7 = .seq c34_9 c34_8), W_seq]
theorem o34_2_eq : opsW N M G 18 V34 o34_2 k o34_2.toList [] e e w =
    (M (e 5) fun t6 =>
    M (e 0) fun t7 =>
    N (builtin Builtin.len #[71] 3 ([false]).toArray ([t7]).toArray) w fun t8 w =>
    N (xv (xbin BinOp.lss 3 (Operand.tmp 6) (Operand.tmp 8) t6 t8)) w fun t9 w =>
    k (Env.p e 9 t9) w) := nr (by kernel_rfl)
theorem c34_14_v : opV V34 (.tmp 9) = true := by kernel_rfl
theorem c34_14_s (hw : Cur w) : W Try.prog 18 V34 c34_14 Q e w = (condP (ev e (.tmp 9)) (Q .normal e w) (Q (.exit 0) e w)) := by rw [(by kernel_rfl : c34_14 = .cond (.tmp 9) Code.skip (Code.exit 0)), W_cond, c34_14_v, cond_true]; simp only [W_ret, W_skip, W_exit, W_label]
theorem c34_13_s (hw : Cur w) : W Try.prog 18 V34 c34_13 Q e w = (opsW (nx Try.prog) mv gdP 18 V34 o34_2 (fun e w => W Try.prog 18 V34 c34_14 Q e w) o34_2.toList [] e e w) := by rw [(by kernel_rfl : c34_13 = .seq (.region 2 o34_2 false) c34_14), W_seq_reg]
theorem c34_6_s (hw : Cur w) : W Try.prog 18 V34 c34_6 Q e w = (W Try.prog 18 V34 c34_13 (seqQ (fun e w => W Try.prog 18 V34 c34_7 Q e w) Q) e w) := by rw [(by kernel_rfl : c34_6 = .seq c34_13 c34_7), W_seq]
theorem c34_5_s (hw : Cur w) : W Try.prog 18 V34 c34_5 Q e w = (LoopP (fun e w k => W Try.prog 18 V34 c34_6 (seqQ k Q) e w) e w) := by rw [(by kernel_rfl : c34_5 = .loop c34_6), W_loop]
theorem c34_4_s (hw : Cur w) : W Try.prog 18 V34 c34_4 Q e w = (W Try.prog 18 V34 c34_5 (blockQ 0 Q) e w) := by rw [(by kernel_rfl : c34_4 = .block 0 c34_5), W_block]
theorem c34_3_s (hw : Cur w) : W Try.prog 18 V34 c34_3 Q e w = (opsW (nx Try.prog) mv gdP 18 V34 o34_1 (fun e w => W Try.prog 18 V34 c34_4 Q e w) o34_1.toList [] e e w) := by rw [(by kernel_rfl : c34_3 = .seq (.region 1 o34_1 false) c34_4), W_seq_reg]
theorem c34_1_s (hw : Cur w) : W Try.prog 18 V34 c34_1 Q e w = (W Try.prog 18 V34 c34_3 (seqQ (fun e w => W Try.prog 18 V34 c34_2 Q e w) Q) e w) := by rw [(by kernel_rfl : c34_1 = .seq c34_3 c34_2), W_seq]
theorem c34_s (hw : Cur w) : W Try.prog 18 V34 c34 Q e w = (opsW (nx Try.prog) mv gdP 18 V34 o34_0 (fun e w => W Try.prog 18 V34 c34_1 Q e w) o34_0.toList [] e e w) := by rw [(by kernel_rfl : c34 = .seq (.region 0 o34_0 false) c34_1), W_seq_reg]
theorem call34 {a0 a1 : Value} {w : World} {R : Value → World → Prop} (h : W Try.prog 18 V34 c34 (retQ Try.prog [.tmp 4] R) (argE [a0, a1]) w) : CallsN Try.prog 34 [a0, a1] w R :=
  callsN_of_W (c := c34) (rs := [.tmp 4]) V34 Try.ntmps34 (by rw [Try.results34]) mixed Try.func34 (by kernel_rfl) (by kernel_rfl) (by kernel_rfl) (by kernel_rfl) (by simp) h
noncomputable def hk34 := And.intro (@o34_0_eq) <| And.intro (@o34_6_eq) <| And.intro (@c34_2_s) <| And.intro (@o34_1_eq) <| And.intro (@o34_3_eq) <| And.intro (@c34_8_s) <| And.intro (@o34_4_eq) <| And.intro (@o34_5_eq) <| And.intro (@c34_12_s) <| And.intro (@c34_11_s) <| And.intro (@c34_10_s) <| And.intro (@c34_9_s) <| And.intro (@c34_7_s) <| And.intro (@o34_2_eq) <| And.intro (@c34_14_s) <| And.intro (@c34_13_s) <| And.intro (@c34_6_s) <| And.intro (@c34_5_s) <| And.intro (@c34_4_s) <| And.intro (@c34_3_s) <| And.intro (@c34_1_s) <| @c34_s
-- K34: ↓hk34
end
end Go.Proofs.Ytenokheiindfkaa
