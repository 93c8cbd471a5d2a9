/- The equations of the code of some functions, written by the printer gen3.py: each is checked by the kernel. -/
import Derived.Test.YtldmkhakjnglmaaQ0
import Derived.Test.YtldmkhakjnglmaaCI
set_option linter.unusedVariables false
set_option linter.unusedSimpArgs false
set_option maxRecDepth 100000
namespace Go.Proofs.Ytldmkhakjnglmaa
open Go.VW
noncomputable section
set_option linter.defProp false
variable {N : NT} {T : T3T} {M : MT} {G : GT} {H : HT} {k : KT} {Q : Exit → Env → World → Prop} {e el eg : Env} {w u0 u1 u2 u3 u4 u5 u6 u7 u8 u9 : World}
/-! ### (*vouch/vouchref10.Table) . Put -/
def V22 : Nat → Bool := fun i => [0, 1, 3, 4, 5, 6, 7, 11, 26, 42].elem i
noncomputable def c22:Code:=(Try.f22.body.getD .skip)
noncomputable def o22_0:Array Oper:=rO (cL c22)
noncomputable def c22_1:Code:=(cR c22)
noncomputable def c22_2:Code:=(cR c22_1)
noncomputable def o22_3:Array Oper:=rO (cL c22_2)
noncomputable def c22_3:Code:=(cR c22_2)
noncomputable def o22_4:Array Oper:=rO (cL c22_3)
noncomputable def c22_4:Code:=(cR c22_3)
noncomputable def c22_5:Code:=(cR c22_4)
noncomputable def o22_11:Array Oper:=rO (cL c22_5)
noncomputable def c22_6:Code:=(cR c22_5)
noncomputable def o22_12:Array Oper:=rO (cL c22_6)
noncomputable def c22_7:Code:=(cL c22_4)
noncomputable def o22_5:Array Oper:=rO (cL c22_7)
noncomputable def c22_8:Code:=(cR c22_7)
noncomputable def c22_9:Code:=(cL c22_8)
noncomputable def c22_10:Code:=(cL c22_9)
noncomputable def c22_11:Code:=(cR c22_10)
noncomputable def c22_12:Code:=(cR c22_11)
noncomputable def o22_7:Array Oper:=rO c22_12
noncomputable def c22_13:Code:=(cL c22_11)
noncomputable def c22_14:Code:=(cL c22_13)
noncomputable def o22_8:Array Oper:=rO (cL c22_14)
noncomputable def b22_8:List Row:=[(0, 0, 1, 30, true), (1, 1, 536870912, 31, true), (2, 3, 1073741824, 32, true), (4, 7, 2147483648, 33, true), (0, 0, 128, 34, true), (24, 31, 12884901888, 35, true), (32, 63, 17179869184, 36, true), (0, 0, 8, 37, true), (128, 128, 68719476736, 38, true), (256, 384, 137438953472, 39, true), (0, 0, 8, 40, true), (1024, 1024, 549755813888, 41, true), (2048, 3072, 1099511627776, 42, true), (4672, 8191, 2508260900864, 43, false)]
noncomputable def c22_15:Code:=(cR c22_14)
noncomputable def c22_16:Code:=(cL c22_15)
noncomputable def o22_9:Array Oper:=rO c22_16
noncomputable def c22_17:Code:=(cR c22_15)
noncomputable def o22_10:Array Oper:=rO c22_17
noncomputable def c22_18:Code:=(cL c22_10)
noncomputable def o22_6:Array Oper:=rO (cL c22_18)
noncomputable def c22_19:Code:=(cR c22_18)
noncomputable def c22_20:Code:=(cL c22_1)
noncomputable def o22_1:Array Oper:=rO (cL c22_20)
noncomputable def c22_21:Code:=(cR c22_20)
noncomputable def c22_22:Code:=(cL c22_21)
noncomputable def o22_2:Array Oper:=rO (cL c22_22)
noncomputable def c22_6_s:=@s_reg Try.prog 72 V22 c22_6 .ret 12 o22_12 (fun N M G k e w =>
    M (Value.bool true) fun t4 =>
    k (Env.p e 4 t4) w) (by kernel_rfl) (by intros; kernel_rfl)
noncomputable def c22_5_s:=@s_reg Try.prog 72 V22 c22_5 c22_6 11 o22_11 (fun N M G k e w =>
    M (e 0) fun t63 =>
    M (e 5) fun t64 =>
    N (xv (Instr.loadAt 36 (e 3))) w fun t65 w =>
    N (xv (Instr.buildSlice 27 1 ([(0, t65)]).toArray)) w fun t66 w =>
    N (builtin Builtin.append #[27, 27] 27 ([false, false]).toArray ([t64, t66]).toArray) w fun t67 w =>
    M (e 6) fun t68 =>
    N (builtin Builtin.append #[27, 27] 27 ([false, false]).toArray ([t67, t68]).toArray) w fun t69 w =>
    N (xnil t63) w fun t70 w =>
    N (xv (Instr.fieldAt 29 t70 0)) w fun t71 w =>
    N (xu (Instr.storeAt 27 t71 t69)) w fun _ w =>
    k e w) (by kernel_rfl) (by intros; kernel_rfl)
noncomputable def c22_12_s:=@s_rend Try.prog 72 V22 c22_12 7 o22_7 (fun N M G k e w =>
    M (e 7) fun t27 =>
    N (xv (xbin BinOp.add 3 (Operand.tmp 27) (Operand.const (Value.int IntKind.i64 1)) t27 (Value.int IntKind.i64 1))) w fun t28 w =>
    M t28 fun t7 =>
    k (Env.p e 7 t7) w) (by kernel_rfl) (by intros; kernel_rfl)
noncomputable def c22_16_s:=@s_rend Try.prog 72 V22 c22_16 9 o22_9 (fun N M G k e w =>
    M (e 5) fun t43 =>
    M (e 0) fun t44 =>
    N (xnil t44) w fun t45 w =>
    N (xv (Instr.fieldAt 29 t45 0)) w fun t46 w =>
    N (xv (Instr.loadAt 27 t46)) w fun t47 w =>
    M (e 7) fun t48 =>
    N (xv (Instr.indexAt 27 t47 t48)) w fun t49 w =>
    N (xv (Instr.loadAt 36 t49)) w fun t50 w =>
    N (xv (Instr.buildSlice 27 1 ([(0, t50)]).toArray)) w fun t51 w =>
    N (builtin Builtin.append #[27, 27] 27 ([false, false]).toArray ([t43, t51]).toArray) w fun t52 w =>
    M t52 fun t5 =>
    k (Env.p e 5 t5) w) (by kernel_rfl) (by intros; kernel_rfl)
noncomputable def c22_17_s:=@s_rend Try.prog 72 V22 c22_17 10 o22_10 (fun N M G k e w =>
    M (e 6) fun t53 =>
    M (e 0) fun t54 =>
    N (xnil t54) w fun t55 w =>
    N (xv (Instr.fieldAt 29 t55 0)) w fun t56 w =>
    N (xv (Instr.loadAt 27 t56)) w fun t57 w =>
    M (e 7) fun t58 =>
    N (xv (Instr.indexAt 27 t57 t58)) w fun t59 w =>
    N (xv (Instr.loadAt 36 t59)) w fun t60 w =>
    N (xv (Instr.buildSlice 27 1 ([(0, t60)]).toArray)) w fun t61 w =>
    N (builtin Builtin.append #[27, 27] 27 ([false, false]).toArray ([t53, t61]).toArray) w fun t62 w =>
    M t62 fun t6 =>
    k (Env.p e 6 t6) w) (by kernel_rfl) (by intros; kernel_rfl)
noncomputable def c22_15_s:=@s_cond Try.prog 72 V22 c22_15 c22_17 42 c22_16 (by kernel_rfl) (by kernel_rfl)
noncomputable def c22_14_s:=@s_drw Try.prog 72 V22 c22_14 c22_15 8 o22_8 b22_8 14 (fun N T M G H k e w =>
    M (e 0) fun t29 =>
    T (FrX none w) (xnil t29) fun t30 =>
    T (FrX none w) (xv (Instr.fieldAt 29 t30 0)) fun t31 =>
    T (FrX (some []) w) (xv (Instr.loadAt 27 t31)) fun t32 =>
    M (e 7) fun t33 =>
    T (FrX none w) (xv (Instr.indexAt 27 t32 t33)) fun t34 =>
    T (FrX (some []) w) (xv (Instr.loadAt 36 t34)) fun t35 =>
    T (FrX none w) (xv (Instr.fieldAt 36 (e 3) 0)) fun t36 =>
    T (FrX none w) (xv (Instr.fieldAt 34 t36 0)) fun t37 =>
    T (FrX (some []) w) (xv (Instr.loadAt 9 t37)) fun t38 =>
    T (FrX none w) (xv (Instr.fieldAt 36 (e 3) 0)) fun t39 =>
    T (FrX none w) (xv (Instr.fieldAt 34 t39 2)) fun t40 =>
    T (FrX (some []) w) (xv (Instr.loadAt 2 t40)) fun t41 =>
    N (xcall (Value.func (Fn.func 39) #[] #[]) [t35, t38, t41]) w fun t42 w13 =>
    k (Env.p e 42 t42) w13) (by kernel_rfl) (by kernel_rfl) (by kernel_rfl) (by intros; kernel_rfl)
noncomputable def c22_13_s:=@s_block Try.prog 72 V22 c22_13 c22_14 1 (by kernel_rfl)
noncomputable def c22_11_s:=@s_seq Try.prog 72 V22 c22_11 c22_12 c22_13 (by kernel_rfl)
noncomputable def c22_19_s:=@s_cond Try.prog 72 V22 c22_19 (.exit 0) 26 .skip (by kernel_rfl) (by kernel_rfl)
noncomputable def c22_18_s:=@s_reg Try.prog 72 V22 c22_18 c22_19 6 o22_6 (fun N M G k e w =>
    M (e 7) fun t20 =>
    M (e 0) fun t21 =>
    N (xnil t21) w fun t22 w =>
    N (xv (Instr.fieldAt 29 t22 0)) w fun t23 w =>
    N (xv (Instr.loadAt 27 t23)) w fun t24 w =>
    N (builtin Builtin.len #[27] 3 ([false]).toArray ([t24]).toArray) w fun t25 w =>
    N (xv (xbin BinOp.lss 3 (Operand.tmp 20) (Operand.tmp 25) t20 t25)) w fun t26 w =>
    k (Env.p e 26 t26) w) (by kernel_rfl) (by intros; kernel_rfl)
noncomputable def c22_10_s:=@s_seq Try.prog 72 V22 c22_10 c22_11 c22_18 (by kernel_rfl)
noncomputable def c22_9_s:=@s_loop Try.prog 72 V22 c22_9 c22_10 (by kernel_rfl)
noncomputable def c22_8_s:=@s_block Try.prog 72 V22 c22_8 c22_9 0 (by kernel_rfl)
noncomputable def c22_7_s:=@s_reg Try.prog 72 V22 c22_7 c22_8 5 o22_5 (fun N M G k e w =>
    M (Value.int IntKind.i64 0) fun t7 =>
    k (Env.p e 7 t7) w) (by kernel_rfl) (by intros; kernel_rfl)
noncomputable def c22_4_s:=@s_seq Try.prog 72 V22 c22_4 c22_5 c22_7 (by kernel_rfl)
noncomputable def c22_3_s:=@s_reg Try.prog 72 V22 c22_3 c22_4 4 o22_4 (fun N M G k e w =>
    M (Value.slice none 0 0) fun t5 =>
    M (Value.slice none 0 0) fun t6 =>
    k (Env.p (Env.p e 5 t5) 6 t6) w) (by kernel_rfl) (by intros; kernel_rfl)
noncomputable def c22_2_s:=@s_reg Try.prog 72 V22 c22_2 c22_3 3 o22_3 (fun N M G k e w =>
    M (e 0) fun t12 =>
    N (xv (Instr.fieldAt 36 (e 3) 0)) w fun t13 w =>
    N (xv (Instr.fieldAt 34 t13 0)) w fun t14 w =>
    N (xv (Instr.loadAt 9 t14)) w fun t15 w =>
    N (xv (Instr.fieldAt 36 (e 3) 0)) w fun t16 w =>
    N (xv (Instr.fieldAt 34 t16 2)) w fun t17 w =>
    N (xv (Instr.loadAt 2 t17)) w fun t18 w =>
    N (xcall (Value.func (Fn.func 23) #[] #[]) [t12, t15, t18]) w fun t19 w =>
    k e w) (by kernel_rfl) (by intros; kernel_rfl)
noncomputable def c22_22_s:=@s_reg Try.prog 72 V22 c22_22 .ret 2 o22_2 (fun N M G k e w =>
    M (Value.bool false) fun t4 =>
    k (Env.p e 4 t4) w) (by kernel_rfl) (by intros; kernel_rfl)
noncomputable def c22_21_s:=@s_cond Try.prog 72 V22 c22_21 .skip 11 c22_22 (by kernel_rfl) (by kernel_rfl)
noncomputable def c22_20_s:=@s_reg Try.prog 72 V22 c22_20 c22_21 1 o22_1 (fun N M G k e w =>
    N (xv (Instr.fieldAt 36 (e 3) 0)) w fun t8 w =>
    N (xv (Instr.loadAt 34 t8)) w fun t9 w =>
    N (xcall (Value.func (Fn.func 38) #[] #[]) [t9]) w fun t10 w =>
    N (xv (Op.unary UnOp.not t10)) w fun t11 w =>
    k (Env.p e 11 t11) w) (by kernel_rfl) (by intros; kernel_rfl)
noncomputable def c22_1_s:=@s_seq Try.prog 72 V22 c22_1 c22_2 c22_20 (by kernel_rfl)
noncomputable def c22_s:=@s_reg Try.prog 72 V22 c22 c22_1 0 o22_0 (fun N M G k e w =>
    N (xv (Instr.box 36 (e 1))) w fun t3 w =>
    M (Value.bool false) fun t4 =>
    k (Env.p (Env.p e 3 t3) 4 t4) w) (by kernel_rfl) (by intros; kernel_rfl)
theorem call22 {a0 a1 : Value} {w : World} {R : Value → World → Prop} (h : W3 Try.prog 72 V22 c22 (retQ Try.prog [.tmp 4] R) (argE [a0, a1]) w) : CallsN Try.prog 22 [a0, a1] w R :=
  callsN_of_W3 (c := c22) (rs := [.tmp 4]) V22 Try.ntmps22 (by rw [Try.results22]) mixed Try.func22 (by kernel_rfl) (by kernel_rfl) (by kernel_rfl) (by kernel_rfl) (by simp) h
noncomputable def w3t_22:=w3t Try.prog 72 V22
noncomputable def hk22 := And.intro @c22_6_s <| And.intro @c22_5_s <| And.intro @c22_12_s <| And.intro @c22_16_s <| And.intro @c22_17_s <| And.intro @c22_15_s <| And.intro @c22_14_s <| And.intro @c22_13_s <| And.intro @c22_11_s <| And.intro @c22_19_s <| And.intro @c22_18_s <| And.intro @c22_10_s <| And.intro @c22_9_s <| And.intro @c22_8_s <| And.intro @c22_7_s <| And.intro @c22_4_s <| And.intro @c22_3_s <| And.intro @c22_2_s <| And.intro @c22_22_s <| And.intro @c22_21_s <| And.intro @c22_20_s <| And.intro @c22_1_s <| And.intro @c22_s <| @w3t_22
-- K22: ↓hk22
/-! ### (*vouch/vouchref10.Table) . Drop -/
def V23 : Nat → Bool := fun i => [0, 1, 2, 6, 7, 8, 9, 16, 42].elem i
noncomputable def c23:Code:=(Try.f23.body.getD .skip)
noncomputable def o23_0:Array Oper:=rO (cL c23)
noncomputable def c23_1:Code:=(cR c23)
noncomputable def o23_1:Array Oper:=rO (cL c23_1)
noncomputable def c23_2:Code:=(cR c23_1)
noncomputable def c23_3:Code:=(cR c23_2)
noncomputable def o23_7:Array Oper:=rO (cL c23_3)
noncomputable def c23_4:Code:=(cR c23_3)
noncomputable def o23_8:Array Oper:=rO (cL c23_4)
noncomputable def c23_5:Code:=(cR c23_4)
noncomputable def o23_9:Array Oper:=rO (cL c23_5)
noncomputable def c23_6:Code:=(cL c23_2)
noncomputable def o23_2:Array Oper:=rO (cL c23_6)
noncomputable def c23_7:Code:=(cR c23_6)
noncomputable def c23_8:Code:=(cL c23_7)
noncomputable def c23_9:Code:=(cL c23_8)
noncomputable def c23_10:Code:=(cR c23_9)
noncomputable def c23_11:Code:=(cR c23_10)
noncomputable def o23_4:Array Oper:=rO c23_11
noncomputable def c23_12:Code:=(cL c23_10)
noncomputable def c23_13:Code:=(cL c23_12)
noncomputable def o23_5:Array Oper:=rO (cL c23_13)
noncomputable def c23_14:Code:=(cR c23_13)
noncomputable def c23_15:Code:=(cL c23_14)
noncomputable def o23_6:Array Oper:=rO c23_15
noncomputable def c23_16:Code:=(cL c23_9)
noncomputable def o23_3:Array Oper:=rO (cL c23_16)
noncomputable def c23_17:Code:=(cR c23_16)
noncomputable def c23_5_s:=@s_reg Try.prog 66 V23 c23_5 .ret 9 o23_9 (fun N M G k e w =>
    M (e 9) fun t65 =>
    M t65 fun t6 =>
    k (Env.p e 6 t6) w) (by kernel_rfl) (by intros; kernel_rfl)
noncomputable def c23_4_s:=@s_reg Try.prog 66 V23 c23_4 c23_5 8 o23_8 (fun N M G k e w =>
    M (e 0) fun t61 =>
    M (e 7) fun t62 =>
    N (xnil t61) w fun t63 w =>
    N (xv (Instr.fieldAt 29 t63 0)) w fun t64 w =>
    N (xu (Instr.storeAt 27 t64 t62)) w fun _ w =>
    k e w) (by kernel_rfl) (by intros; kernel_rfl)
noncomputable def c23_3_s:=@s_reg Try.prog 66 V23 c23_3 c23_4 7 o23_7 (fun N M G k e w =>
    M (e 7) fun t53 =>
    N (builtin Builtin.len #[27] 3 ([false]).toArray ([t53]).toArray) w fun t54 w =>
    M (e 0) fun t55 =>
    N (xnil t55) w fun t56 w =>
    N (xv (Instr.fieldAt 29 t56 0)) w fun t57 w =>
    N (xv (Instr.loadAt 27 t57)) w fun t58 w =>
    N (builtin Builtin.len #[27] 3 ([false]).toArray ([t58]).toArray) w fun t59 w =>
    N (xv (xbin BinOp.lss 3 (Operand.tmp 54) (Operand.tmp 59) t54 t59)) w fun t60 w =>
    M t60 fun t9 =>
    k (Env.p e 9 t9) w) (by kernel_rfl) (by intros; kernel_rfl)
noncomputable def c23_11_s:=@s_rend Try.prog 66 V23 c23_11 4 o23_4 (fun N M G k e w =>
    M (e 8) fun t17 =>
    N (xv (xbin BinOp.add 3 (Operand.tmp 17) (Operand.const (Value.int IntKind.i64 1)) t17 (Value.int IntKind.i64 1))) w fun t18 w =>
    M t18 fun t8 =>
    k (Env.p e 8 t8) w) (by kernel_rfl) (by intros; kernel_rfl)
noncomputable def c23_15_s:=@s_rend Try.prog 66 V23 c23_15 6 o23_6 (fun N M G k e w =>
    M (e 7) fun t43 =>
    M (e 0) fun t44 =>
    N (xnil t44) w fun t45 w =>
    N (xv (Instr.fieldAt 29 t45 0)) w fun t46 w =>
    N (xv (Instr.loadAt 27 t46)) w fun t47 w =>
    M (e 8) fun t48 =>
    N (xv (Instr.indexAt 27 t47 t48)) w fun t49 w =>
    N (xv (Instr.loadAt 36 t49)) w fun t50 w =>
    N (xv (Instr.buildSlice 27 1 ([(0, t50)]).toArray)) w fun t51 w =>
    N (builtin Builtin.append #[27, 27] 27 ([false, false]).toArray ([t43, t51]).toArray) w fun t52 w =>
    M t52 fun t7 =>
    k (Env.p e 7 t7) w) (by kernel_rfl) (by intros; kernel_rfl)
noncomputable def c23_14_s:=@s_cond Try.prog 66 V23 c23_14 .skip 42 c23_15 (by kernel_rfl) (by kernel_rfl)
noncomputable def c23_13_s:=@s_reg Try.prog 66 V23 c23_13 c23_14 5 o23_5 (fun N M G k e w =>
    M (e 0) fun t19 =>
    N (xnil t19) w fun t20 w =>
    N (xv (Instr.fieldAt 29 t20 0)) w fun t21 w =>
    N (xv (Instr.loadAt 27 t21)) w fun t22 w =>
    M (e 8) fun t23 =>
    N (xv (Instr.indexAt 27 t22 t23)) w fun t24 w =>
    N (xv (Instr.fieldAt 36 t24 0)) w fun t25 w =>
    N (xv (Instr.fieldAt 34 t25 0)) w fun t26 w =>
    N (xv (Instr.loadAt 9 t26)) w fun t27 w =>
    M (e 1) fun t28 =>
    N (xv (xbin BinOp.neq 9 (Operand.tmp 27) (Operand.tmp 28) t27 t28)) w fun t29 w =>
    M t29 fun t30 =>
    G (isB t30 false) (fun K => M (e 0) fun v => K v w) (fun t31 w =>
    G (isB t30 false) (fun K => N (xnil t31) w K) (fun t32 w =>
    G (isB t30 false) (fun K => N (xv (Instr.fieldAt 29 t32 0)) w K) (fun t33 w =>
    G (isB t30 false) (fun K => N (xv (Instr.loadAt 27 t33)) w K) (fun t34 w =>
    G (isB t30 false) (fun K => M (e 8) fun v => K v w) (fun t35 w =>
    G (isB t30 false) (fun K => N (xv (Instr.indexAt 27 t34 t35)) w K) (fun t36 w =>
    G (isB t30 false) (fun K => N (xv (Instr.fieldAt 36 t36 0)) w K) (fun t37 w =>
    G (isB t30 false) (fun K => N (xv (Instr.fieldAt 34 t37 2)) w K) (fun t38 w =>
    G (isB t30 false) (fun K => N (xv (Instr.loadAt 2 t38)) w K) (fun t39 w =>
    G (isB t30 false) (fun K => M (e 2) fun v => K v w) (fun t40 w =>
    G (isB t30 false) (fun K => N (xv (xbin BinOp.neq 2 (Operand.tmp 39) (Operand.tmp 40) t39 t40)) w K) (fun t41 w =>
    N (xpick t30 (Value.bool true) t41) w fun t42 w =>
    k (Env.p e 42 t42) w) w) w) w) w) w) w) w) w) w) w) w) (by kernel_rfl) (by intros; kernel_rfl)
noncomputable def c23_12_s:=@s_block Try.prog 66 V23 c23_12 c23_13 1 (by kernel_rfl)
noncomputable def c23_10_s:=@s_seq Try.prog 66 V23 c23_10 c23_11 c23_12 (by kernel_rfl)
noncomputable def c23_17_s:=@s_cond Try.prog 66 V23 c23_17 (.exit 0) 16 .skip (by kernel_rfl) (by kernel_rfl)
noncomputable def c23_16_s:=@s_reg Try.prog 66 V23 c23_16 c23_17 3 o23_3 (fun N M G k e w =>
    M (e 8) fun t10 =>
    M (e 0) fun t11 =>
    N (xnil t11) w fun t12 w =>
    N (xv (Instr.fieldAt 29 t12 0)) w fun t13 w =>
    N (xv (Instr.loadAt 27 t13)) w fun t14 w =>
    N (builtin Builtin.len #[27] 3 ([false]).toArray ([t14]).toArray) w fun t15 w =>
    N (xv (xbin BinOp.lss 3 (Operand.tmp 10) (Operand.tmp 15) t10 t15)) w fun t16 w =>
    k (Env.p e 16 t16) w) (by kernel_rfl) (by intros; kernel_rfl)
noncomputable def c23_9_s:=@s_seq Try.prog 66 V23 c23_9 c23_10 c23_16 (by kernel_rfl)
noncomputable def c23_8_s:=@s_loop Try.prog 66 V23 c23_8 c23_9 (by kernel_rfl)
noncomputable def c23_7_s:=@s_block Try.prog 66 V23 c23_7 c23_8 0 (by kernel_rfl)
noncomputable def c23_6_s:=@s_reg Try.prog 66 V23 c23_6 c23_7 2 o23_2 (fun N M G k e w =>
    M (Value.int IntKind.i64 0) fun t8 =>
    k (Env.p e 8 t8) w) (by kernel_rfl) (by intros; kernel_rfl)
noncomputable def c23_2_s:=@s_seq Try.prog 66 V23 c23_2 c23_3 c23_6 (by kernel_rfl)
noncomputable def c23_1_s:=@s_reg Try.prog 66 V23 c23_1 c23_2 1 o23_1 (fun N M G k e w =>
    M (Value.slice none 0 0) fun t7 =>
    k (Env.p e 7 t7) w) (by kernel_rfl) (by intros; kernel_rfl)
noncomputable def c23_s:=@s_reg Try.prog 66 V23 c23 c23_1 0 o23_0 (fun N M G k e w =>
    M (Value.bool false) fun t6 =>
    k (Env.p e 6 t6) w) (by kernel_rfl) (by intros; kernel_rfl)
theorem call23 {a0 a1 a2 : Value} {w : World} {R : Value → World → Prop} (h : W3 Try.prog 66 V23 c23 (retQ Try.prog [.tmp 6] R) (argE [a0, a1, a2]) w) : CallsN Try.prog 23 [a0, a1, a2] w R :=
  callsN_of_W3 (c := c23) (rs := [.tmp 6]) V23 Try.ntmps23 (by rw [Try.results23]) mixed Try.func23 (by kernel_rfl) (by kernel_rfl) (by kernel_rfl) (by kernel_rfl) (by simp) h
noncomputable def w3t_23:=w3t Try.prog 66 V23
noncomputable def hk23 := And.intro @c23_5_s <| And.intro @c23_4_s <| And.intro @c23_3_s <| And.intro @c23_11_s <| And.intro @c23_15_s <| And.intro @c23_14_s <| And.intro @c23_13_s <| And.intro @c23_12_s <| And.intro @c23_10_s <| And.intro @c23_17_s <| And.intro @c23_16_s <| And.intro @c23_9_s <| And.intro @c23_8_s <| And.intro @c23_7_s <| And.intro @c23_6_s <| And.intro @c23_2_s <| And.intro @c23_1_s <| And.intro @c23_s <| @w3t_23
-- K23: ↓hk23
/-! ### (*vouch/vouchref10.Table) . Get -/
def V24 : Nat → Bool := fun i => [0, 1, 2, 6, 7, 8, 15, 41].elem i
noncomputable def c24:Code:=(Try.f24.body.getD .skip)
noncomputable def o24_0:Array Oper:=rO (cL c24)
noncomputable def c24_1:Code:=(cR c24)
noncomputable def c24_2:Code:=(cR c24_1)
noncomputable def o24_6:Array Oper:=rO (cL c24_2)
noncomputable def c24_3:Code:=(cL c24_1)
noncomputable def o24_1:Array Oper:=rO (cL c24_3)
noncomputable def c24_4:Code:=(cR c24_3)
noncomputable def c24_5:Code:=(cL c24_4)
noncomputable def c24_6:Code:=(cL c24_5)
noncomputable def c24_7:Code:=(cR c24_6)
noncomputable def c24_8:Code:=(cR c24_7)
noncomputable def o24_3:Array Oper:=rO c24_8
noncomputable def c24_9:Code:=(cL c24_7)
noncomputable def c24_10:Code:=(cL c24_9)
noncomputable def o24_4:Array Oper:=rO (cL c24_10)
noncomputable def c24_11:Code:=(cR c24_10)
noncomputable def c24_12:Code:=(cL c24_11)
noncomputable def o24_5:Array Oper:=rO (cL c24_12)
noncomputable def c24_13:Code:=(cL c24_6)
noncomputable def o24_2:Array Oper:=rO (cL c24_13)
noncomputable def c24_14:Code:=(cR c24_13)
noncomputable def c24_2_s:=@s_reg Try.prog 50 V24 c24_2 .ret 6 o24_6 (fun N M G k e w =>
    N (xv (Instr.build 36 ([]).toArray)) w fun t49 w =>
    N (xu (Instr.storeAt 36 (e 6) t49)) w fun _ w =>
    M (Value.bool false) fun t7 =>
    k (Env.p e 7 t7) w) (by kernel_rfl) (by intros; kernel_rfl)
noncomputable def c24_8_s:=@s_rend Try.prog 50 V24 c24_8 3 o24_3 (fun N M G k e w =>
    M (e 8) fun t16 =>
    N (xv (xbin BinOp.add 3 (Operand.tmp 16) (Operand.const (Value.int IntKind.i64 1)) t16 (Value.int IntKind.i64 1))) w fun t17 w =>
    M t17 fun t8 =>
    k (Env.p e 8 t8) w) (by kernel_rfl) (by intros; kernel_rfl)
noncomputable def c24_12_s:=@s_reg Try.prog 50 V24 c24_12 .ret 5 o24_5 (fun N M G k e w =>
    M (e 0) fun t42 =>
    N (xnil t42) w fun t43 w =>
    N (xv (Instr.fieldAt 29 t43 0)) w fun t44 w =>
    N (xv (Instr.loadAt 27 t44)) w fun t45 w =>
    M (e 8) fun t46 =>
    N (xv (Instr.indexAt 27 t45 t46)) w fun t47 w =>
    N (xv (Instr.loadAt 36 t47)) w fun t48 w =>
    N (xu (Instr.storeAt 36 (e 6) t48)) w fun _ w =>
    M (Value.bool true) fun t7 =>
    k (Env.p e 7 t7) w) (by kernel_rfl) (by intros; kernel_rfl)
noncomputable def c24_11_s:=@s_cond Try.prog 50 V24 c24_11 .skip 41 c24_12 (by kernel_rfl) (by kernel_rfl)
noncomputable def c24_10_s:=@s_reg Try.prog 50 V24 c24_10 c24_11 4 o24_4 (fun N M G k e w =>
    M (e 0) fun t18 =>
    N (xnil t18) w fun t19 w =>
    N (xv (Instr.fieldAt 29 t19 0)) w fun t20 w =>
    N (xv (Instr.loadAt 27 t20)) w fun t21 w =>
    M (e 8) fun t22 =>
    N (xv (Instr.indexAt 27 t21 t22)) w fun t23 w =>
    N (xv (Instr.fieldAt 36 t23 0)) w fun t24 w =>
    N (xv (Instr.fieldAt 34 t24 0)) w fun t25 w =>
    N (xv (Instr.loadAt 9 t25)) w fun t26 w =>
    M (e 1) fun t27 =>
    N (xv (xbin BinOp.eql 9 (Operand.tmp 26) (Operand.tmp 27) t26 t27)) w fun t28 w =>
    M t28 fun t29 =>
    G (isB t29 true) (fun K => M (e 0) fun v => K v w) (fun t30 w =>
    G (isB t29 true) (fun K => N (xnil t30) w K) (fun t31 w =>
    G (isB t29 true) (fun K => N (xv (Instr.fieldAt 29 t31 0)) w K) (fun t32 w =>
    G (isB t29 true) (fun K => N (xv (Instr.loadAt 27 t32)) w K) (fun t33 w =>
    G (isB t29 true) (fun K => M (e 8) fun v => K v w) (fun t34 w =>
    G (isB t29 true) (fun K => N (xv (Instr.indexAt 27 t33 t34)) w K) (fun t35 w =>
    G (isB t29 true) (fun K => N (xv (Instr.fieldAt 36 t35 0)) w K) (fun t36 w =>
    G (isB t29 true) (fun K => N (xv (Instr.fieldAt 34 t36 2)) w K) (fun t37 w =>
    G (isB t29 true) (fun K => N (xv (Instr.loadAt 2 t37)) w K) (fun t38 w =>
    G (isB t29 true) (fun K => M (e 2) fun v => K v w) (fun t39 w =>
    G (isB t29 true) (fun K => N (xv (xbin BinOp.eql 2 (Operand.tmp 38) (Operand.tmp 39) t38 t39)) w K) (fun t40 w =>
    N (xpick t29 t40 (Value.bool false)) w fun t41 w =>
    k (Env.p e 41 t41) w) w) w) w) w) w) w) w) w) w) w) w) (by kernel_rfl) (by intros; kernel_rfl)
noncomputable def c24_9_s:=@s_block Try.prog 50 V24 c24_9 c24_10 1 (by kernel_rfl)
noncomputable def c24_7_s:=@s_seq Try.prog 50 V24 c24_7 c24_8 c24_9 (by kernel_rfl)
noncomputable def c24_14_s:=@s_cond Try.prog 50 V24 c24_14 (.exit 0) 15 .skip (by kernel_rfl) (by kernel_rfl)
noncomputable def c24_13_s:=@s_reg Try.prog 50 V24 c24_13 c24_14 2 o24_2 (fun N M G k e w =>
    M (e 8) fun t9 =>
    M (e 0) fun t10 =>
    N (xnil t10) w fun t11 w =>
    N (xv (Instr.fieldAt 29 t11 0)) w fun t12 w =>
    N (xv (Instr.loadAt 27 t12)) w fun t13 w =>
    N (builtin Builtin.len #[27] 3 ([false]).toArray ([t13]).toArray) w fun t14 w =>
    N (xv (xbin BinOp.lss 3 (Operand.tmp 9) (Operand.tmp 14) t9 t14)) w fun t15 w =>
    k (Env.p e 15 t15) w) (by kernel_rfl) (by intros; kernel_rfl)
noncomputable def c24_6_s:=@s_seq Try.prog 50 V24 c24_6 c24_7 c24_13 (by kernel_rfl)
noncomputable def c24_5_s:=@s_loop Try.prog 50 V24 c24_5 c24_6 (by kernel_rfl)
noncomputable def c24_4_s:=@s_block Try.prog 50 V24 c24_4 c24_5 0 (by kernel_rfl)
noncomputable def c24_3_s:=@s_reg Try.prog 50 V24 c24_3 c24_4 1 o24_1 (fun N M G k e w =>
    M (Value.int IntKind.i64 0) fun t8 =>
    k (Env.p e 8 t8) w) (by kernel_rfl) (by intros; kernel_rfl)
noncomputable def c24_1_s:=@s_seq Try.prog 50 V24 c24_1 c24_2 c24_3 (by kernel_rfl)
noncomputable def c24_s:=@s_reg Try.prog 50 V24 c24 c24_1 0 o24_0 (fun N M G k e w =>
    N (xv (Instr.alloc 36 true (.tuple #[]))) w fun t6 w =>
    M (Value.bool false) fun t7 =>
    k (Env.p (Env.p e 6 t6) 7 t7) w) (by kernel_rfl) (by intros; kernel_rfl)
theorem call24 {a0 a1 a2 : Value} {w : World} {R : Value → World → Prop} (h : W3 Try.prog 50 V24 c24 (retQ Try.prog [.cell 6 36, .tmp 7] R) (argE [a0, a1, a2]) w) : CallsN Try.prog 24 [a0, a1, a2] w R :=
  callsN_of_W3 (c := c24) (rs := [.cell 6 36, .tmp 7]) V24 Try.ntmps24 (by rw [Try.results24]) mixed Try.func24 (by kernel_rfl) (by kernel_rfl) (by kernel_rfl) (by kernel_rfl) (by simp) h
noncomputable def w3t_24:=w3t Try.prog 50 V24
noncomputable def hk24 := And.intro @c24_2_s <| And.intro @c24_8_s <| And.intro @c24_12_s <| And.intro @c24_11_s <| And.intro @c24_10_s <| And.intro @c24_9_s <| And.intro @c24_7_s <| And.intro @c24_14_s <| And.intro @c24_13_s <| And.intro @c24_6_s <| And.intro @c24_5_s <| And.intro @c24_4_s <| And.intro @c24_3_s <| And.intro @c24_1_s <| And.intro @c24_s <| @w3t_24
-- K24: ↓hk24
/-! ### (*vouch/vouchref10.Table) . Find -/
def V25 : Nat → Bool := fun i => [0, 1, 2, 3, 7, 8, 9, 10, 11, 12, 20, 46].elem i
noncomputable def c25:Code:=(Try.f25.body.getD .skip)
noncomputable def o25_0:Array Oper:=rO (cL c25)
noncomputable def c25_1:Code:=(cR c25)
noncomputable def o25_1:Array Oper:=rO (cL c25_1)
noncomputable def c25_2:Code:=(cR c25_1)
noncomputable def o25_2:Array Oper:=rO (cL c25_2)
noncomputable def c25_3:Code:=(cR c25_2)
noncomputable def c25_4:Code:=(cR c25_3)
noncomputable def o25_9:Array Oper:=rO (cL c25_4)
noncomputable def c25_5:Code:=(cL c25_3)
noncomputable def o25_3:Array Oper:=rO (cL c25_5)
noncomputable def c25_6:Code:=(cR c25_5)
noncomputable def c25_7:Code:=(cL c25_6)
noncomputable def c25_8:Code:=(cL c25_7)
noncomputable def c25_9:Code:=(cR c25_8)
noncomputable def c25_10:Code:=(cR c25_9)
noncomputable def o25_5:Array Oper:=rO c25_10
noncomputable def c25_11:Code:=(cL c25_9)
noncomputable def c25_12:Code:=(cL c25_11)
noncomputable def o25_6:Array Oper:=rO (cL c25_12)
noncomputable def b25_6:List Row:=[(0, 0, 1, 24, true), (1, 1, 8388608, 25, true), (2, 3, 16777216, 26, true), (4, 7, 33554432, 27, true), (0, 0, 4096, 28, true), (24, 31, 201326592, 29, true), (32, 63, 268435456, 30, true), (64, 127, 536870912, 31, true), (128, 255, 1073741824, 32, true), (0, 0, 2, 33, true), (768, 1023, 6442450944, 34, true), (1024, 2047, 8589934592, 35, true), (2048, 4095, 17179869185, 36, true), (6144, 8191, 51539607552, 37, true), (10240, 16383, 85899345920, 38, true), (18432, 32767, 154618822656, 39, true), (2048, 4095, 17179873280, 40, true), (100352, 131071, 841813590016, 41, true), (133120, 262143, 1116691496960, 42, true), (264192, 524287, 2216203124736, 43, true), (2048, 4095, 17179869188, 44, true), (2048, 4095, 17179869312, 45, true), (3672064, 4194303, 30803505446912, 46, false), (4196352, 8388607, 35201551958016, 47, true)]
noncomputable def c25_13:Code:=(cR c25_12)
noncomputable def c25_14:Code:=(cL c25_13)
noncomputable def o25_7:Array Oper:=rO (cL c25_14)
noncomputable def c25_15:Code:=(cR c25_14)
noncomputable def o25_8:Array Oper:=rO c25_15
noncomputable def c25_16:Code:=(cL c25_8)
noncomputable def o25_4:Array Oper:=rO (cL c25_16)
noncomputable def c25_17:Code:=(cR c25_16)
noncomputable def c25_4_s:=@s_reg Try.prog 56 V25 c25_4 .ret 9 o25_9 (fun N M G k e w =>
    N (xv (Instr.loadAt 36 (e 10))) w fun t54 w =>
    M (e 11) fun t55 =>
    N (xu (Instr.storeAt 36 (e 8) t54)) w fun _ w =>
    M t55 fun t9 =>
    k (Env.p e 9 t9) w) (by kernel_rfl) (by intros; kernel_rfl)
noncomputable def c25_10_s:=@s_rend Try.prog 56 V25 c25_10 5 o25_5 (fun N M G k e w =>
    M (e 12) fun t21 =>
    N (xv (xbin BinOp.add 3 (Operand.tmp 21) (Operand.const (Value.int IntKind.i64 1)) t21 (Value.int IntKind.i64 1))) w fun t22 w =>
    M t22 fun t12 =>
    k (Env.p e 12 t12) w) (by kernel_rfl) (by intros; kernel_rfl)
noncomputable def c25_15_s:=@s_rend Try.prog 56 V25 c25_15 8 o25_8 (fun N M G k e w =>
    M (Value.bool true) fun t11 =>
    k (Env.p e 11 t11) w) (by kernel_rfl) (by intros; kernel_rfl)
noncomputable def c25_14_s:=@s_reg Try.prog 56 V25 c25_14 c25_15 7 o25_7 (fun N M G k e w =>
    M (e 0) fun t47 =>
    N (xnil t47) w fun t48 w =>
    N (xv (Instr.fieldAt 29 t48 0)) w fun t49 w =>
    N (xv (Instr.loadAt 27 t49)) w fun t50 w =>
    M (e 12) fun t51 =>
    N (xv (Instr.indexAt 27 t50 t51)) w fun t52 w =>
    N (xv (Instr.loadAt 36 t52)) w fun t53 w =>
    N (xu (Instr.storeAt 36 (e 10) t53)) w fun _ w =>
    k e w) (by kernel_rfl) (by intros; kernel_rfl)
noncomputable def c25_13_s:=@s_cond Try.prog 56 V25 c25_13 .skip 46 c25_14 (by kernel_rfl) (by kernel_rfl)
noncomputable def c25_12_s:=@s_drw Try.prog 56 V25 c25_12 c25_13 6 o25_6 b25_6 24 (fun N T M G H k e w =>
    M (e 0) fun t23 =>
    T (FrX none w) (xnil t23) fun t24 =>
    T (FrX none w) (xv (Instr.fieldAt 29 t24 0)) fun t25 =>
    T (FrX (some []) w) (xv (Instr.loadAt 27 t25)) fun t26 =>
    M (e 12) fun t27 =>
    T (FrX none w) (xv (Instr.indexAt 27 t26 t27)) fun t28 =>
    T (FrX none w) (xv (Instr.fieldAt 36 t28 0)) fun t29 =>
    T (FrX none w) (xv (Instr.fieldAt 34 t29 0)) fun t30 =>
    T (FrX (some []) w) (xv (Instr.loadAt 9 t30)) fun t31 =>
    M (e 1) fun t32 =>
    T (FrX none w) (xv (xbin BinOp.eql 9 (Operand.tmp 31) (Operand.tmp 32) t31 t32)) fun t33 =>
    M t33 fun t34 =>
    H (isB t34 true) (fun K => M (e 0) K) (fun t35 =>
    H (isB t34 true) (fun K => T (FrX none w) (xnil t35) K) (fun t36 =>
    H (isB t34 true) (fun K => T (FrX none w) (xv (Instr.fieldAt 29 t36 0)) K) (fun t37 =>
    H (isB t34 true) (fun K => T (FrX (some []) w) (xv (Instr.loadAt 27 t37)) K) (fun t38 =>
    H (isB t34 true) (fun K => M (e 12) K) (fun t39 =>
    H (isB t34 true) (fun K => T (FrX none w) (xv (Instr.indexAt 27 t38 t39)) K) (fun t40 =>
    H (isB t34 true) (fun K => T (FrX none w) (xv (Instr.fieldAt 36 t40 0)) K) (fun t41 =>
    H (isB t34 true) (fun K => T (FrX (some []) w) (xv (Instr.loadAt 34 t41)) K) (fun t42 =>
    H (isB t34 true) (fun K => M (e 2) K) (fun t43 =>
    H (isB t34 true) (fun K => T (FrX (some []) w) (xv (Instr.loadAt 38 (e 7))) K) (fun t44 =>
    G (isB t34 true) (fun K => N (xcall (Value.func (Fn.func 40) #[] #[]) [t42, t43, t44]) w K) (fun t45 w22 =>
    T (FrX none w22) (xpick t34 t45 (Value.bool false)) fun t46 =>
    k (Env.p e 46 t46) w22) w))))))))))) (by kernel_rfl) (by kernel_rfl) (by kernel_rfl) (by intros; kernel_rfl)
noncomputable def c25_11_s:=@s_block Try.prog 56 V25 c25_11 c25_12 1 (by kernel_rfl)
noncomputable def c25_9_s:=@s_seq Try.prog 56 V25 c25_9 c25_10 c25_11 (by kernel_rfl)
noncomputable def c25_17_s:=@s_cond Try.prog 56 V25 c25_17 (.exit 0) 20 .skip (by kernel_rfl) (by kernel_rfl)
noncomputable def c25_16_s:=@s_reg Try.prog 56 V25 c25_16 c25_17 4 o25_4 (fun N M G k e w =>
    M (e 12) fun t14 =>
    M (e 0) fun t15 =>
    N (xnil t15) w fun t16 w =>
    N (xv (Instr.fieldAt 29 t16 0)) w fun t17 w =>
    N (xv (Instr.loadAt 27 t17)) w fun t18 w =>
    N (builtin Builtin.len #[27] 3 ([false]).toArray ([t18]).toArray) w fun t19 w =>
    N (xv (xbin BinOp.lss 3 (Operand.tmp 14) (Operand.tmp 19) t14 t19)) w fun t20 w =>
    k (Env.p e 20 t20) w) (by kernel_rfl) (by intros; kernel_rfl)
noncomputable def c25_8_s:=@s_seq Try.prog 56 V25 c25_8 c25_9 c25_16 (by kernel_rfl)
noncomputable def c25_7_s:=@s_loop Try.prog 56 V25 c25_7 c25_8 (by kernel_rfl)
noncomputable def c25_6_s:=@s_block Try.prog 56 V25 c25_6 c25_7 0 (by kernel_rfl)
noncomputable def c25_5_s:=@s_reg Try.prog 56 V25 c25_5 c25_6 3 o25_3 (fun N M G k e w =>
    M (Value.int IntKind.i64 0) fun t12 =>
    k (Env.p e 12 t12) w) (by kernel_rfl) (by intros; kernel_rfl)
noncomputable def c25_3_s:=@s_seq Try.prog 56 V25 c25_3 c25_4 c25_5 (by kernel_rfl)
noncomputable def c25_2_s:=@s_reg Try.prog 56 V25 c25_2 c25_3 2 o25_2 (fun N M G k e w =>
    M (Value.bool false) fun t11 =>
    k (Env.p e 11 t11) w) (by kernel_rfl) (by intros; kernel_rfl)
noncomputable def c25_1_s:=@s_reg Try.prog 56 V25 c25_1 c25_2 1 o25_1 (fun N M G k e w =>
    N (xv (Instr.build 36 ([]).toArray)) w fun t13 w =>
    N (xv (Instr.alloc 36 true (.tuple #[]))) w fun t10 w =>
    N (xu (Instr.storeAt 36 t10 t13)) w fun _ w =>
    k (Env.p e 10 t10) w) (by kernel_rfl) (by intros; kernel_rfl)
noncomputable def c25_s:=@s_reg Try.prog 56 V25 c25 c25_1 0 o25_0 (fun N M G k e w =>
    N (xv (Instr.box 38 (e 3))) w fun t7 w =>
    N (xv (Instr.alloc 36 true (.tuple #[]))) w fun t8 w =>
    M (Value.bool false) fun t9 =>
    k (Env.p (Env.p (Env.p e 7 t7) 8 t8) 9 t9) w) (by kernel_rfl) (by intros; kernel_rfl)
theorem call25 {a0 a1 a2 a3 : Value} {w : World} {R : Value → World → Prop} (h : W3 Try.prog 56 V25 c25 (retQ Try.prog [.cell 8 36, .tmp 9] R) (argE [a0, a1, a2, a3]) w) : CallsN Try.prog 25 [a0, a1, a2, a3] w R :=
  callsN_of_W3 (c := c25) (rs := [.cell 8 36, .tmp 9]) V25 Try.ntmps25 (by rw [Try.results25]) mixed Try.func25 (by kernel_rfl) (by kernel_rfl) (by kernel_rfl) (by kernel_rfl) (by simp) h
noncomputable def w3t_25:=w3t Try.prog 56 V25
noncomputable def hk25 := And.intro @c25_4_s <| And.intro @c25_10_s <| And.intro @c25_15_s <| And.intro @c25_14_s <| And.intro @c25_13_s <| And.intro @c25_12_s <| And.intro @c25_11_s <| And.intro @c25_9_s <| And.intro @c25_17_s <| And.intro @c25_16_s <| And.intro @c25_8_s <| And.intro @c25_7_s <| And.intro @c25_6_s <| And.intro @c25_5_s <| And.intro @c25_3_s <| And.intro @c25_2_s <| And.intro @c25_1_s <| And.intro @c25_s <| @w3t_25
-- K25: ↓hk25
/-! ### (*vouch/vouchref10.Table) . Of -/
def V26 : Nat → Bool := fun i => [0, 1, 4, 5, 6, 13, 26].elem i
noncomputable def c26:Code:=(Try.f26.body.getD .skip)
noncomputable def o26_0:Array Oper:=rO (cL c26)
noncomputable def c26_1:Code:=(cR c26)
noncomputable def o26_1:Array Oper:=rO (cL c26_1)
noncomputable def c26_2:Code:=(cR c26_1)
noncomputable def c26_3:Code:=(cR c26_2)
noncomputable def o26_7:Array Oper:=rO (cL c26_3)
noncomputable def c26_4:Code:=(cL c26_2)
noncomputable def o26_2:Array Oper:=rO (cL c26_4)
noncomputable def c26_5:Code:=(cR c26_4)
noncomputable def c26_6:Code:=(cL c26_5)
noncomputable def c26_7:Code:=(cL c26_6)
noncomputable def c26_8:Code:=(cR c26_7)
noncomputable def c26_9:Code:=(cR c26_8)
noncomputable def o26_4:Array Oper:=rO c26_9
noncomputable def c26_10:Code:=(cL c26_8)
noncomputable def c26_11:Code:=(cL c26_10)
noncomputable def o26_5:Array Oper:=rO (cL c26_11)
noncomputable def c26_12:Code:=(cR c26_11)
noncomputable def c26_13:Code:=(cL c26_12)
noncomputable def o26_6:Array Oper:=rO c26_13
noncomputable def c26_14:Code:=(cL c26_7)
noncomputable def o26_3:Array Oper:=rO (cL c26_14)
noncomputable def c26_15:Code:=(cR c26_14)
noncomputable def c26_3_s:=@s_reg Try.prog 38 V26 c26_3 .ret 7 o26_7 (fun N M G k e w =>
    M (e 5) fun t37 =>
    M t37 fun t4 =>
    k (Env.p e 4 t4) w) (by kernel_rfl) (by intros; kernel_rfl)
noncomputable def c26_9_s:=@s_rend Try.prog 38 V26 c26_9 4 o26_4 (fun N M G k e w =>
    M (e 6) fun t14 =>
    N (xv (xbin BinOp.add 3 (Operand.tmp 14) (Operand.const (Value.int IntKind.i64 1)) t14 (Value.int IntKind.i64 1))) w fun t15 w =>
    M t15 fun t6 =>
    k (Env.p e 6 t6) w) (by kernel_rfl) (by intros; kernel_rfl)
noncomputable def c26_13_s:=@s_rend Try.prog 38 V26 c26_13 6 o26_6 (fun N M G k e w =>
    M (e 5) fun t27 =>
    M (e 0) fun t28 =>
    N (xnil t28) w fun t29 w =>
    N (xv (Instr.fieldAt 29 t29 0)) w fun t30 w =>
    N (xv (Instr.loadAt 27 t30)) w fun t31 w =>
    M (e 6) fun t32 =>
    N (xv (Instr.indexAt 27 t31 t32)) w fun t33 w =>
    N (xv (Instr.loadAt 36 t33)) w fun t34 w =>
    N (xv (Instr.buildSlice 27 1 ([(0, t34)]).toArray)) w fun t35 w =>
    N (builtin Builtin.append #[27, 27] 27 ([false, false]).toArray ([t27, t35]).toArray) w fun t36 w =>
    M t36 fun t5 =>
    k (Env.p e 5 t5) w) (by kernel_rfl) (by intros; kernel_rfl)
noncomputable def c26_12_s:=@s_cond Try.prog 38 V26 c26_12 .skip 26 c26_13 (by kernel_rfl) (by kernel_rfl)
noncomputable def c26_11_s:=@s_reg Try.prog 38 V26 c26_11 c26_12 5 o26_5 (fun N M G k e w =>
    M (e 0) fun t16 =>
    N (xnil t16) w fun t17 w =>
    N (xv (Instr.fieldAt 29 t17 0)) w fun t18 w =>
    N (xv (Instr.loadAt 27 t18)) w fun t19 w =>
    M (e 6) fun t20 =>
    N (xv (Instr.indexAt 27 t19 t20)) w fun t21 w =>
    N (xv (Instr.fieldAt 36 t21 0)) w fun t22 w =>
    N (xv (Instr.fieldAt 34 t22 0)) w fun t23 w =>
    N (xv (Instr.loadAt 9 t23)) w fun t24 w =>
    M (e 1) fun t25 =>
    N (xv (xbin BinOp.eql 9 (Operand.tmp 24) (Operand.tmp 25) t24 t25)) w fun t26 w =>
    k (Env.p e 26 t26) w) (by kernel_rfl) (by intros; kernel_rfl)
noncomputable def c26_10_s:=@s_block Try.prog 38 V26 c26_10 c26_11 1 (by kernel_rfl)
noncomputable def c26_8_s:=@s_seq Try.prog 38 V26 c26_8 c26_9 c26_10 (by kernel_rfl)
noncomputable def c26_15_s:=@s_cond Try.prog 38 V26 c26_15 (.exit 0) 13 .skip (by kernel_rfl) (by kernel_rfl)
noncomputable def c26_14_s:=@s_reg Try.prog 38 V26 c26_14 c26_15 3 o26_3 (fun N M G k e w =>
    M (e 6) fun t7 =>
    M (e 0) fun t8 =>
    N (xnil t8) w fun t9 w =>
    N (xv (Instr.fieldAt 29 t9 0)) w fun t10 w =>
    N (xv (Instr.loadAt 27 t10)) w fun t11 w =>
    N (builtin Builtin.len #[27] 3 ([false]).toArray ([t11]).toArray) w fun t12 w =>
    N (xv (xbin BinOp.lss 3 (Operand.tmp 7) (Operand.tmp 12) t7 t12)) w fun t13 w =>
    k (Env.p e 13 t13) w) (by kernel_rfl) (by intros; kernel_rfl)
noncomputable def c26_7_s:=@s_seq Try.prog 38 V26 c26_7 c26_8 c26_14 (by kernel_rfl)
noncomputable def c26_6_s:=@s_loop Try.prog 38 V26 c26_6 c26_7 (by kernel_rfl)
noncomputable def c26_5_s:=@s_block Try.prog 38 V26 c26_5 c26_6 0 (by kernel_rfl)
noncomputable def c26_4_s:=@s_reg Try.prog 38 V26 c26_4 c26_5 2 o26_2 (fun N M G k e w =>
    M (Value.int IntKind.i64 0) fun t6 =>
    k (Env.p e 6 t6) w) (by kernel_rfl) (by intros; kernel_rfl)
noncomputable def c26_2_s:=@s_seq Try.prog 38 V26 c26_2 c26_3 c26_4 (by kernel_rfl)
noncomputable def c26_1_s:=@s_reg Try.prog 38 V26 c26_1 c26_2 1 o26_1 (fun N M G k e w =>
    M (Value.slice none 0 0) fun t5 =>
    k (Env.p e 5 t5) w) (by kernel_rfl) (by intros; kernel_rfl)
noncomputable def c26_s:=@s_reg Try.prog 38 V26 c26 c26_1 0 o26_0 (fun N M G k e w =>
    M (Value.slice none 0 0) fun t4 =>
    k (Env.p e 4 t4) w) (by kernel_rfl) (by intros; kernel_rfl)
theorem call26 {a0 a1 : Value} {w : World} {R : Value → World → Prop} (h : W3 Try.prog 38 V26 c26 (retQ Try.prog [.tmp 4] R) (argE [a0, a1]) w) : CallsN Try.prog 26 [a0, a1] w R :=
  callsN_of_W3 (c := c26) (rs := [.tmp 4]) V26 Try.ntmps26 (by rw [Try.results26]) mixed Try.func26 (by kernel_rfl) (by kernel_rfl) (by kernel_rfl) (by kernel_rfl) (by simp) h
noncomputable def w3t_26:=w3t Try.prog 38 V26
noncomputable def hk26 := And.intro @c26_3_s <| And.intro @c26_9_s <| And.intro @c26_13_s <| And.intro @c26_12_s <| And.intro @c26_11_s <| And.intro @c26_10_s <| And.intro @c26_8_s <| And.intro @c26_15_s <| And.intro @c26_14_s <| And.intro @c26_7_s <| And.intro @c26_6_s <| And.intro @c26_5_s <| And.intro @c26_4_s <| And.intro @c26_2_s <| And.intro @c26_1_s <| And.intro @c26_s <| @w3t_26
-- K26: ↓hk26
/-! ### (*vouch/vouchref10.Table) . Bytes -/
def V12 : Nat → Bool := fun i => [0, 2, 3, 4, 11].elem i
noncomputable def c12:Code:=(Try.f12.body.getD .skip)
noncomputable def o12_0:Array Oper:=rO (cL c12)
noncomputable def c12_1:Code:=(cR c12)
noncomputable def o12_1:Array Oper:=rO (cL c12_1)
noncomputable def c12_2:Code:=(cR c12_1)
noncomputable def c12_3:Code:=(cR c12_2)
noncomputable def o12_6:Array Oper:=rO (cL c12_3)
noncomputable def c12_4:Code:=(cL c12_2)
noncomputable def o12_2:Array Oper:=rO (cL c12_4)
noncomputable def c12_5:Code:=(cR c12_4)
noncomputable def c12_6:Code:=(cL c12_5)
noncomputable def c12_7:Code:=(cL c12_6)
noncomputable def c12_8:Code:=(cR c12_7)
noncomputable def c12_9:Code:=(cR c12_8)
noncomputable def o12_4:Array Oper:=rO c12_9
noncomputable def c12_10:Code:=(cL c12_8)
noncomputable def c12_11:Code:=(cL c12_10)
noncomputable def o12_5:Array Oper:=rO c12_11
noncomputable def c12_12:Code:=(cL c12_7)
noncomputable def o12_3:Array Oper:=rO (cL c12_12)
noncomputable def c12_13:Code:=(cR c12_12)
noncomputable def c12_3_s:=@s_reg Try.prog 26 V12 c12_3 .ret 6 o12_6 (fun N M G k e w =>
    M (e 3) fun t25 =>
    M t25 fun t2 =>
    k (Env.p e 2 t2) w) (by kernel_rfl) (by intros; kernel_rfl)
noncomputable def c12_9_s:=@s_rend Try.prog 26 V12 c12_9 4 o12_4 (fun N M G k e w =>
    M (e 4) fun t12 =>
    N (xv (xbin BinOp.add 3 (Operand.tmp 12) (Operand.const (Value.int IntKind.i64 1)) t12 (Value.int IntKind.i64 1))) w fun t13 w =>
    M t13 fun t4 =>
    k (Env.p e 4 t4) w) (by kernel_rfl) (by intros; kernel_rfl)
noncomputable def c12_11_s:=@s_rend Try.prog 26 V12 c12_11 5 o12_5 (fun N M G k e w =>
    M (e 3) fun t14 =>
    M (e 0) fun t15 =>
    N (xnil t15) w fun t16 w =>
    N (xv (Instr.fieldAt 29 t16 0)) w fun t17 w =>
    N (xv (Instr.loadAt 27 t17)) w fun t18 w =>
    M (e 4) fun t19 =>
    N (xv (Instr.indexAt 27 t18 t19)) w fun t20 w =>
    N (xv (Instr.fieldAt 36 t20 0)) w fun t21 w =>
    N (xv (Instr.loadAt 34 t21)) w fun t22 w =>
    N (xcall (Value.func (Fn.func 27) #[] #[]) [t22]) w fun t23 w =>
    N (xv (xbin BinOp.add 3 (Operand.tmp 14) (Operand.tmp 23) t14 t23)) w fun t24 w =>
    M t24 fun t3 =>
    k (Env.p e 3 t3) w) (by kernel_rfl) (by intros; kernel_rfl)
noncomputable def c12_10_s:=@s_block Try.prog 26 V12 c12_10 c12_11 1 (by kernel_rfl)
noncomputable def c12_8_s:=@s_seq Try.prog 26 V12 c12_8 c12_9 c12_10 (by kernel_rfl)
noncomputable def c12_13_s:=@s_cond Try.prog 26 V12 c12_13 (.exit 0) 11 .skip (by kernel_rfl) (by kernel_rfl)
noncomputable def c12_12_s:=@s_reg Try.prog 26 V12 c12_12 c12_13 3 o12_3 (fun N M G k e w =>
    M (e 4) fun t5 =>
    M (e 0) fun t6 =>
    N (xnil t6) w fun t7 w =>
    N (xv (Instr.fieldAt 29 t7 0)) w fun t8 w =>
    N (xv (Instr.loadAt 27 t8)) w fun t9 w =>
    N (builtin Builtin.len #[27] 3 ([false]).toArray ([t9]).toArray) w fun t10 w =>
    N (xv (xbin BinOp.lss 3 (Operand.tmp 5) (Operand.tmp 10) t5 t10)) w fun t11 w =>
    k (Env.p e 11 t11) w) (by kernel_rfl) (by intros; kernel_rfl)
noncomputable def c12_7_s:=@s_seq Try.prog 26 V12 c12_7 c12_8 c12_12 (by kernel_rfl)
noncomputable def c12_6_s:=@s_loop Try.prog 26 V12 c12_6 c12_7 (by kernel_rfl)
noncomputable def c12_5_s:=@s_block Try.prog 26 V12 c12_5 c12_6 0 (by kernel_rfl)
noncomputable def c12_4_s:=@s_reg Try.prog 26 V12 c12_4 c12_5 2 o12_2 (fun N M G k e w =>
    M (Value.int IntKind.i64 0) fun t4 =>
    k (Env.p e 4 t4) w) (by kernel_rfl) (by intros; kernel_rfl)
noncomputable def c12_2_s:=@s_seq Try.prog 26 V12 c12_2 c12_3 c12_4 (by kernel_rfl)
noncomputable def c12_1_s:=@s_reg Try.prog 26 V12 c12_1 c12_2 1 o12_1 (fun N M G k e w =>
    M (Value.int IntKind.i64 0) fun t3 =>
    k (Env.p e 3 t3) w) (by kernel_rfl) (by intros; kernel_rfl)
noncomputable def c12_s:=@s_reg Try.prog 26 V12 c12 c12_1 0 o12_0 (fun N M G k e w =>
    M (Value.int IntKind.i64 0) fun t2 =>
    k (Env.p e 2 t2) w) (by kernel_rfl) (by intros; kernel_rfl)
theorem call12 {a0 : Value} {w : World} {R : Value → World → Prop} (h : W3 Try.prog 26 V12 c12 (retQ Try.prog [.tmp 2] R) (argE [a0]) w) : CallsN Try.prog 12 [a0] w R :=
  callsN_of_W3 (c := c12) (rs := [.tmp 2]) V12 Try.ntmps12 (by rw [Try.results12]) mixed Try.func12 (by kernel_rfl) (by kernel_rfl) (by kernel_rfl) (by kernel_rfl) (by simp) h
noncomputable def w3t_12:=w3t Try.prog 26 V12
noncomputable def hk12 := And.intro @c12_3_s <| And.intro @c12_9_s <| And.intro @c12_11_s <| And.intro @c12_10_s <| And.intro @c12_8_s <| And.intro @c12_13_s <| And.intro @c12_12_s <| And.intro @c12_7_s <| And.intro @c12_6_s <| And.intro @c12_5_s <| And.intro @c12_4_s <| And.intro @c12_2_s <| And.intro @c12_1_s <| And.intro @c12_s <| @w3t_12
-- K12: ↓hk12
/-! ### vouch/vouchref10.Same -/
def V13 : Nat → Bool := fun i => [0, 1, 4, 5, 10, 14, 25].elem i
noncomputable def c13:Code:=(Try.f13.body.getD .skip)
noncomputable def o13_0:Array Oper:=rO (cL c13)
noncomputable def c13_1:Code:=(cR c13)
noncomputable def c13_2:Code:=(cR c13_1)
noncomputable def c13_3:Code:=(cR c13_2)
noncomputable def o13_8:Array Oper:=rO (cL c13_3)
noncomputable def c13_4:Code:=(cL c13_2)
noncomputable def o13_3:Array Oper:=rO (cL c13_4)
noncomputable def c13_5:Code:=(cR c13_4)
noncomputable def c13_6:Code:=(cL c13_5)
noncomputable def c13_7:Code:=(cL c13_6)
noncomputable def c13_8:Code:=(cR c13_7)
noncomputable def c13_9:Code:=(cR c13_8)
noncomputable def o13_5:Array Oper:=rO c13_9
noncomputable def c13_10:Code:=(cL c13_8)
noncomputable def c13_11:Code:=(cL c13_10)
noncomputable def o13_6:Array Oper:=rO (cL c13_11)
noncomputable def b13_6:List Row:=[(0, 0, 1, 18, true), (0, 0, 32, 19, true), (3, 3, 393216, 20, true), (4, 7, 524288, 21, true), (0, 0, 2, 22, true), (0, 0, 32, 23, true), (48, 48, 6291456, 24, true), (64, 112, 8388608, 25, true), (136, 255, 17825792, 26, true)]
noncomputable def c13_12:Code:=(cR c13_11)
noncomputable def c13_13:Code:=(cL c13_12)
noncomputable def o13_7:Array Oper:=rO (cL c13_13)
noncomputable def c13_14:Code:=(cL c13_7)
noncomputable def o13_4:Array Oper:=rO (cL c13_14)
noncomputable def c13_15:Code:=(cR c13_14)
noncomputable def c13_16:Code:=(cL c13_1)
noncomputable def o13_1:Array Oper:=rO (cL c13_16)
noncomputable def c13_17:Code:=(cR c13_16)
noncomputable def c13_18:Code:=(cL c13_17)
noncomputable def o13_2:Array Oper:=rO (cL c13_18)
noncomputable def c13_3_s:=@s_reg Try.prog 26 V13 c13_3 .ret 8 o13_8 (fun N M G k e w =>
    M (Value.bool true) fun t4 =>
    k (Env.p e 4 t4) w) (by kernel_rfl) (by intros; kernel_rfl)
noncomputable def c13_9_s:=@s_rend Try.prog 26 V13 c13_9 5 o13_5 (fun N M G k e w =>
    M (e 5) fun t15 =>
    N (xv (xbin BinOp.add 3 (Operand.tmp 15) (Operand.const (Value.int IntKind.i64 1)) t15 (Value.int IntKind.i64 1))) w fun t16 w =>
    M t16 fun t5 =>
    k (Env.p e 5 t5) w) (by kernel_rfl) (by intros; kernel_rfl)
noncomputable def c13_13_s:=@s_reg Try.prog 26 V13 c13_13 .ret 7 o13_7 (fun N M G k e w =>
    M (Value.bool false) fun t4 =>
    k (Env.p e 4 t4) w) (by kernel_rfl) (by intros; kernel_rfl)
noncomputable def c13_12_s:=@s_cond Try.prog 26 V13 c13_12 .skip 25 c13_13 (by kernel_rfl) (by kernel_rfl)
noncomputable def c13_11_s:=@s_drw Try.prog 26 V13 c13_11 c13_12 6 o13_6 b13_6 9 (fun N T M G H k e w =>
    M (e 0) fun t17 =>
    M (e 5) fun t18 =>
    T (FrX none w) (xv (Instr.indexAt 27 t17 t18)) fun t19 =>
    T (FrX (some []) w) (xv (Instr.loadAt 36 t19)) fun t20 =>
    M (e 1) fun t21 =>
    M (e 5) fun t22 =>
    T (FrX none w) (xv (Instr.indexAt 27 t21 t22)) fun t23 =>
    T (FrX (some []) w) (xv (Instr.loadAt 36 t23)) fun t24 =>
    T (FrX none w) (xv (xbin BinOp.neq 36 (Operand.tmp 20) (Operand.tmp 24) t20 t24)) fun t25 =>
    k (Env.p e 25 t25) w) (by kernel_rfl) (by kernel_rfl) (by kernel_rfl) (by intros; kernel_rfl)
noncomputable def c13_10_s:=@s_block Try.prog 26 V13 c13_10 c13_11 1 (by kernel_rfl)
noncomputable def c13_8_s:=@s_seq Try.prog 26 V13 c13_8 c13_9 c13_10 (by kernel_rfl)
noncomputable def c13_15_s:=@s_cond Try.prog 26 V13 c13_15 (.exit 0) 14 .skip (by kernel_rfl) (by kernel_rfl)
noncomputable def c13_14_s:=@s_reg Try.prog 26 V13 c13_14 c13_15 4 o13_4 (fun N M G k e w =>
    M (e 5) fun t11 =>
    M (e 0) fun t12 =>
    N (builtin Builtin.len #[27] 3 ([false]).toArray ([t12]).toArray) w fun t13 w =>
    N (xv (xbin BinOp.lss 3 (Operand.tmp 11) (Operand.tmp 13) t11 t13)) w fun t14 w =>
    k (Env.p e 14 t14) w) (by kernel_rfl) (by intros; kernel_rfl)
noncomputable def c13_7_s:=@s_seq Try.prog 26 V13 c13_7 c13_8 c13_14 (by kernel_rfl)
noncomputable def c13_6_s:=@s_loop Try.prog 26 V13 c13_6 c13_7 (by kernel_rfl)
noncomputable def c13_5_s:=@s_block Try.prog 26 V13 c13_5 c13_6 0 (by kernel_rfl)
noncomputable def c13_4_s:=@s_reg Try.prog 26 V13 c13_4 c13_5 3 o13_3 (fun N M G k e w =>
    M (Value.int IntKind.i64 0) fun t5 =>
    k (Env.p e 5 t5) w) (by kernel_rfl) (by intros; kernel_rfl)
noncomputable def c13_2_s:=@s_seq Try.prog 26 V13 c13_2 c13_3 c13_4 (by kernel_rfl)
noncomputable def c13_18_s:=@s_reg Try.prog 26 V13 c13_18 .ret 2 o13_2 (fun N M G k e w =>
    M (Value.bool false) fun t4 =>
    k (Env.p e 4 t4) w) (by kernel_rfl) (by intros; kernel_rfl)
noncomputable def c13_17_s:=@s_cond Try.prog 26 V13 c13_17 .skip 10 c13_18 (by kernel_rfl) (by kernel_rfl)
noncomputable def c13_16_s:=@s_reg Try.prog 26 V13 c13_16 c13_17 1 o13_1 (fun N M G k e w =>
    M (e 0) fun t6 =>
    N (builtin Builtin.len #[27] 3 ([false]).toArray ([t6]).toArray) w fun t7 w =>
    M (e 1) fun t8 =>
    N (builtin Builtin.len #[27] 3 ([false]).toArray ([t8]).toArray) w fun t9 w =>
    N (xv (xbin BinOp.neq 3 (Operand.tmp 7) (Operand.tmp 9) t7 t9)) w fun t10 w =>
    k (Env.p e 10 t10) w) (by kernel_rfl) (by intros; kernel_rfl)
noncomputable def c13_1_s:=@s_seq Try.prog 26 V13 c13_1 c13_2 c13_16 (by kernel_rfl)
noncomputable def c13_s:=@s_reg Try.prog 26 V13 c13 c13_1 0 o13_0 (fun N M G k e w =>
    M (Value.bool false) fun t4 =>
    k (Env.p e 4 t4) w) (by kernel_rfl) (by intros; kernel_rfl)
theorem call13 {a0 a1 : Value} {w : World} {R : Value → World → Prop} (h : W3 Try.prog 26 V13 c13 (retQ Try.prog [.tmp 4] R) (argE [a0, a1]) w) : CallsN Try.prog 13 [a0, a1] w R :=
  callsN_of_W3 (c := c13) (rs := [.tmp 4]) V13 Try.ntmps13 (by rw [Try.results13]) mixed Try.func13 (by kernel_rfl) (by kernel_rfl) (by kernel_rfl) (by kernel_rfl) (by simp) h
noncomputable def w3t_13:=w3t Try.prog 26 V13
noncomputable def hk13 := And.intro @c13_3_s <| And.intro @c13_9_s <| And.intro @c13_13_s <| And.intro @c13_12_s <| And.intro @c13_11_s <| And.intro @c13_10_s <| And.intro @c13_8_s <| And.intro @c13_15_s <| And.intro @c13_14_s <| And.intro @c13_7_s <| And.intro @c13_6_s <| And.intro @c13_5_s <| And.intro @c13_4_s <| And.intro @c13_2_s <| And.intro @c13_18_s <| And.intro @c13_17_s <| And.intro @c13_16_s <| And.intro @c13_1_s <| And.intro @c13_s <| @w3t_13
-- K13: ↓hk13
/-! ### vouch/vouchref10.ahead -/
def V39 : Nat → Bool := fun i => [0, 1, 2, 3, 6].elem i
noncomputable def c39:Code:=(Try.f39.body.getD .skip)
noncomputable def o39_0:Array Oper:=rO (cL c39)
noncomputable def c39_1:Code:=(cR c39)
noncomputable def o39_1:Array Oper:=rO (cL c39_1)
noncomputable def c39_1_s:=@s_reg Try.prog 26 V39 c39_1 .ret 1 o39_1 (fun N M G k e w =>
    N (xv (Instr.fieldAt 36 (e 3) 0)) w fun t7 w =>
    N (xv (Instr.fieldAt 34 t7 0)) w fun t8 w =>
    N (xv (Instr.loadAt 9 t8)) w fun t9 w =>
    M (e 1) fun t10 =>
    N (xv (xbin BinOp.lss 9 (Operand.tmp 9) (Operand.tmp 10) t9 t10)) w fun t11 w =>
    M t11 fun t12 =>
    G (isB t12 false) (fun K => N (xv (Instr.fieldAt 36 (e 3) 0)) w K) (fun t13 w =>
    G (isB t12 false) (fun K => N (xv (Instr.fieldAt 34 t13 0)) w K) (fun t14 w =>
    G (isB t12 false) (fun K => N (xv (Instr.loadAt 9 t14)) w K) (fun t15 w =>
    G (isB t12 false) (fun K => M (e 1) fun v => K v w) (fun t16 w =>
    G (isB t12 false) (fun K => N (xv (xbin BinOp.eql 9 (Operand.tmp 15) (Operand.tmp 16) t15 t16)) w K) (fun t17 w =>
    G (isB t12 false) (fun K => M t17 fun v => K v w) (fun t18 w =>
    G (isB t18 true) (fun K => N (xv (Instr.fieldAt 36 (e 3) 0)) w K) (fun t19 w =>
    G (isB t18 true) (fun K => N (xv (Instr.fieldAt 34 t19 2)) w K) (fun t20 w =>
    G (isB t18 true) (fun K => N (xv (Instr.loadAt 2 t20)) w K) (fun t21 w =>
    G (isB t18 true) (fun K => M (e 2) fun v => K v w) (fun t22 w =>
    G (isB t18 true) (fun K => N (xv (xbin BinOp.lss 2 (Operand.tmp 21) (Operand.tmp 22) t21 t22)) w K) (fun t23 w =>
    G (isB t12 false) (fun K => N (xpick t18 t23 (Value.bool false)) w K) (fun t24 w =>
    N (xpick t12 (Value.bool true) t24) w fun t25 w =>
    M t25 fun t6 =>
    k (Env.p e 6 t6) w) w) w) w) w) w) w) w) w) w) w) w) w) (by kernel_rfl) (by intros; kernel_rfl)
noncomputable def c39_s:=@s_reg Try.prog 26 V39 c39 c39_1 0 o39_0 (fun N M G k e w =>
    N (xv (Instr.box 36 (e 0))) w fun t3 w =>
    M (Value.bool false) fun t6 =>
    k (Env.p (Env.p e 3 t3) 6 t6) w) (by kernel_rfl) (by intros; kernel_rfl)
theorem call39 {a0 a1 a2 : Value} {w : World} {R : Value → World → Prop} (h : W3 Try.prog 26 V39 c39 (retQ Try.prog [.tmp 6] R) (argE [a0, a1, a2]) w) : CallsN Try.prog 39 [a0, a1, a2] w R :=
  callsN_of_W3 (c := c39) (rs := [.tmp 6]) V39 Try.ntmps39 (by rw [Try.results39]) mixed Try.func39 (by kernel_rfl) (by kernel_rfl) (by kernel_rfl) (by kernel_rfl) (by simp) h
noncomputable def w3t_39:=w3t Try.prog 26 V39
noncomputable def hk39 := And.intro @c39_1_s <| And.intro @c39_s <| @w3t_39
-- K39: ↓hk39
/-! ### vouch/vouchref09.Good -/
def V38 : Nat → Bool := fun i => [0, 1, 2, 29].elem i
noncomputable def c38:Code:=(Try.f38.body.getD .skip)
noncomputable def o38_0:Array Oper:=rO (cL c38)
noncomputable def c38_1:Code:=(cR c38)
noncomputable def c38_2:Code:=(cR c38_1)
noncomputable def o38_3:Array Oper:=rO (cL c38_2)
noncomputable def c38_3:Code:=(cL c38_1)
noncomputable def o38_1:Array Oper:=rO (cL c38_3)
noncomputable def c38_4:Code:=(cR c38_3)
noncomputable def c38_5:Code:=(cL c38_4)
noncomputable def o38_2:Array Oper:=rO (cL c38_5)
noncomputable def c38_2_s:=@s_reg Try.prog 38 V38 c38_2 .ret 3 o38_3 (fun N M G k e w =>
    N (xv (Instr.fieldAt 34 (e 1) 3)) w fun t30 w =>
    N (xv (Instr.loadAt 2 t30)) w fun t31 w =>
    N (xv (xbin BinOp.eql 2 (Operand.tmp 31) (Operand.const (Value.int IntKind.i64 4611686018427387904)) t31 (Value.int IntKind.i64 4611686018427387904))) w fun t32 w =>
    M t32 fun t33 =>
    G (isB t33 false) (fun K => N (xv (Instr.fieldAt 34 (e 1) 3)) w K) (fun t34 w =>
    G (isB t33 false) (fun K => N (xv (Instr.loadAt 2 t34)) w K) (fun t35 w =>
    G (isB t33 false) (fun K => N (xv (xbin BinOp.leq 2 (Operand.tmp 35) (Operand.const (Value.int IntKind.i64 1099511627777)) t35 (Value.int IntKind.i64 1099511627777))) w K) (fun t36 w =>
    N (xpick t33 (Value.bool true) t36) w fun t37 w =>
    M t37 fun t2 =>
    k (Env.p e 2 t2) w) w) w) w) (by kernel_rfl) (by intros; kernel_rfl)
noncomputable def c38_5_s:=@s_reg Try.prog 38 V38 c38_5 .ret 2 o38_2 (fun N M G k e w =>
    M (Value.bool false) fun t2 =>
    k (Env.p e 2 t2) w) (by kernel_rfl) (by intros; kernel_rfl)
noncomputable def c38_4_s:=@s_cond Try.prog 38 V38 c38_4 .skip 29 c38_5 (by kernel_rfl) (by kernel_rfl)
noncomputable def c38_3_s:=@s_reg Try.prog 38 V38 c38_3 c38_4 1 o38_1 (fun N M G k e w =>
    N (xv (Instr.fieldAt 34 (e 1) 0)) w fun t3 w =>
    N (xv (Instr.loadAt 9 t3)) w fun t4 w =>
    N (xcall (Value.func (Fn.func 52) #[] #[]) [t4]) w fun t5 w =>
    N (xv (Op.unary UnOp.not t5)) w fun t6 w =>
    M t6 fun t7 =>
    G (isB t7 false) (fun K => N (xv (Instr.fieldAt 34 (e 1) 1)) w K) (fun t8 w =>
    G (isB t7 false) (fun K => N (xv (Instr.loadAt 32 t8)) w K) (fun t9 w =>
    G (isB t7 false) (fun K => N (xcall (Value.func (Fn.func 53) #[] #[]) [t9]) w K) (fun t10 w =>
    G (isB t7 false) (fun K => N (xv (Op.unary UnOp.not t10)) w K) (fun t11 w =>
    N (xpick t7 (Value.bool true) t11) w fun t12 w =>
    M t12 fun t13 =>
    G (isB t13 false) (fun K => N (xv (Instr.fieldAt 34 (e 1) 2)) w K) (fun t14 w =>
    G (isB t13 false) (fun K => N (xv (Instr.loadAt 2 t14)) w K) (fun t15 w =>
    G (isB t13 false) (fun K => N (xv (xbin BinOp.lss 2 (Operand.tmp 15) (Operand.const (Value.int IntKind.i64 0)) t15 (Value.int IntKind.i64 0))) w K) (fun t16 w =>
    N (xpick t13 (Value.bool true) t16) w fun t17 w =>
    M t17 fun t18 =>
    G (isB t18 false) (fun K => N (xv (Instr.fieldAt 34 (e 1) 2)) w K) (fun t19 w =>
    G (isB t18 false) (fun K => N (xv (Instr.loadAt 2 t19)) w K) (fun t20 w =>
    G (isB t18 false) (fun K => N (xv (xbin BinOp.gtr 2 (Operand.tmp 20) (Operand.const (Value.int IntKind.i64 1099511627776)) t20 (Value.int IntKind.i64 1099511627776))) w K) (fun t21 w =>
    N (xpick t18 (Value.bool true) t21) w fun t22 w =>
    M t22 fun t23 =>
    G (isB t23 false) (fun K => N (xv (Instr.fieldAt 34 (e 1) 3)) w K) (fun t24 w =>
    G (isB t23 false) (fun K => N (xv (Instr.loadAt 2 t24)) w K) (fun t25 w =>
    G (isB t23 false) (fun K => N (xv (Instr.fieldAt 34 (e 1) 2)) w K) (fun t26 w =>
    G (isB t23 false) (fun K => N (xv (Instr.loadAt 2 t26)) w K) (fun t27 w =>
    G (isB t23 false) (fun K => N (xv (xbin BinOp.leq 2 (Operand.tmp 25) (Operand.tmp 27) t25 t27)) w K) (fun t28 w =>
    N (xpick t23 (Value.bool true) t28) w fun t29 w =>
    k (Env.p e 29 t29) w) w) w) w) w) w) w) w) w) w) w) w) w) w) w) w) (by kernel_rfl) (by intros; kernel_rfl)
noncomputable def c38_1_s:=@s_seq Try.prog 38 V38 c38_1 c38_2 c38_3 (by kernel_rfl)
noncomputable def c38_s:=@s_reg Try.prog 38 V38 c38 c38_1 0 o38_0 (fun N M G k e w =>
    N (xv (Instr.box 34 (e 0))) w fun t1 w =>
    M (Value.bool false) fun t2 =>
    k (Env.p (Env.p e 1 t1) 2 t2) w) (by kernel_rfl) (by intros; kernel_rfl)
theorem call38 {a0 : Value} {w : World} {R : Value → World → Prop} (h : W3 Try.prog 38 V38 c38 (retQ Try.prog [.tmp 2] R) (argE [a0]) w) : CallsN Try.prog 38 [a0] w R :=
  callsN_of_W3 (c := c38) (rs := [.tmp 2]) V38 Try.ntmps38 (by rw [Try.results38]) mixed Try.func38 (by kernel_rfl) (by kernel_rfl) (by kernel_rfl) (by kernel_rfl) (by simp) h
noncomputable def w3t_38:=w3t Try.prog 38 V38
noncomputable def hk38 := And.intro @c38_2_s <| And.intro @c38_5_s <| And.intro @c38_4_s <| And.intro @c38_3_s <| And.intro @c38_1_s <| And.intro @c38_s <| @w3t_38
-- K38: ↓hk38
/-! ### vouch/vouchref09.Cost -/
def V27 : Nat → Bool := fun i => [0, 1, 2].elem i
noncomputable def c27:Code:=(Try.f27.body.getD .skip)
noncomputable def o27_0:Array Oper:=rO (cL c27)
noncomputable def c27_1:Code:=(cR c27)
noncomputable def o27_1:Array Oper:=rO (cL c27_1)
noncomputable def c27_1_s:=@s_reg Try.prog 12 V27 c27_1 .ret 1 o27_1 (fun N M G k e w =>
    N (xv (Instr.fieldAt 34 (e 1) 0)) w fun t3 w =>
    N (xv (Instr.loadAt 9 t3)) w fun t4 w =>
    N (builtin Builtin.len #[9] 3 ([false]).toArray ([t4]).toArray) w fun t5 w =>
    N (xv (xbin BinOp.add 3 (Operand.const (Value.int IntKind.i64 32)) (Operand.tmp 5) (Value.int IntKind.i64 32) t5)) w fun t6 w =>
    N (xv (Instr.fieldAt 34 (e 1) 1)) w fun t7 w =>
    N (xv (Instr.fieldAt 32 t7 1)) w fun t8 w =>
    N (xv (Instr.loadAt 9 t8)) w fun t9 w =>
    N (builtin Builtin.len #[9] 3 ([false]).toArray ([t9]).toArray) w fun t10 w =>
    N (xv (xbin BinOp.add 3 (Operand.tmp 6) (Operand.tmp 10) t6 t10)) w fun t11 w =>
    M t11 fun t2 =>
    k (Env.p e 2 t2) w) (by kernel_rfl) (by intros; kernel_rfl)
noncomputable def c27_s:=@s_reg Try.prog 12 V27 c27 c27_1 0 o27_0 (fun N M G k e w =>
    N (xv (Instr.box 34 (e 0))) w fun t1 w =>
    M (Value.int IntKind.i64 0) fun t2 =>
    k (Env.p (Env.p e 1 t1) 2 t2) w) (by kernel_rfl) (by intros; kernel_rfl)
theorem call27 {a0 : Value} {w : World} {R : Value → World → Prop} (h : W3 Try.prog 12 V27 c27 (retQ Try.prog [.tmp 2] R) (argE [a0]) w) : CallsN Try.prog 27 [a0] w R :=
  callsN_of_W3 (c := c27) (rs := [.tmp 2]) V27 Try.ntmps27 (by rw [Try.results27]) mixed Try.func27 (by kernel_rfl) (by kernel_rfl) (by kernel_rfl) (by kernel_rfl) (by simp) h
noncomputable def w3t_27:=w3t Try.prog 12 V27
noncomputable def hk27 := And.intro @c27_1_s <| And.intro @c27_s <| @w3t_27
-- K27: ↓hk27
/-! ### vouch/vouchref09.Meets -/
def V40 : Nat → Bool := fun i => [0, 1, 2, 3, 5, 6].elem i
noncomputable def c40:Code:=(Try.f40.body.getD .skip)
noncomputable def o40_0:Array Oper:=rO (cL c40)
noncomputable def c40_1:Code:=(cR c40)
noncomputable def o40_1:Array Oper:=rO (cL c40_1)
noncomputable def b40_1:List Row:=[(0, 0, 8, 8, true), (0, 0, 2, 9, true), (3, 3, 384, 10, false), (0, 0, 32, 11, true), (8, 8, 1024, 12, true), (0, 0, 32, 13, true), (32, 32, 4096, 14, true), (84, 127, 10240, 15, false), (132, 255, 16896, 16, false), (511, 511, 32768, 7, true)]
noncomputable def c40_1_s:=@s_drw Try.prog 16 V40 c40_1 .ret 1 o40_1 b40_1 10 (fun N T M G H k e w =>
    T (FrX (some []) w) (xv (Instr.loadAt 34 (e 3))) fun t7 =>
    M (e 1) fun t8 =>
    T (FrX none w) (xv (Instr.fieldAt 38 (e 5) 0)) fun t10 =>
    T (FrX (some []) w) (xv (Instr.loadAt 2 t10)) fun t11 =>
    T (FrX none w) (xv (Instr.fieldAt 38 (e 5) 1)) fun t12 =>
    T (FrX (some []) w) (xv (Instr.loadAt 2 t12)) fun t13 =>
    N (xcall (Value.func (Fn.func 55) #[] #[]) [t7, t8]) w fun t9 w2 =>
    FrX (some []) w w2 ∧ (FrX (some []) w w2 ∧ (N (xcall (Value.func (Fn.func 56) #[] #[]) [t11, t13]) w2 fun t14 w7 =>
    N (xcall (Value.func (Fn.func 54) #[] #[]) [t9, t14]) w7 fun t15 w8 =>
    M t15 fun t6 =>
    k (Env.p e 6 t6) w8))) (by kernel_rfl) (by kernel_rfl) (by kernel_rfl) (by intros; kernel_rfl)
noncomputable def c40_s:=@s_reg Try.prog 16 V40 c40 c40_1 0 o40_0 (fun N M G k e w =>
    N (xv (Instr.box 34 (e 0))) w fun t3 w =>
    N (xv (Instr.box 38 (e 2))) w fun t5 w =>
    M (Value.bool false) fun t6 =>
    k (Env.p (Env.p (Env.p e 3 t3) 5 t5) 6 t6) w) (by kernel_rfl) (by intros; kernel_rfl)
theorem call40 {a0 a1 a2 : Value} {w : World} {R : Value → World → Prop} (h : W3 Try.prog 16 V40 c40 (retQ Try.prog [.tmp 6] R) (argE [a0, a1, a2]) w) : CallsN Try.prog 40 [a0, a1, a2] w R :=
  callsN_of_W3 (c := c40) (rs := [.tmp 6]) V40 Try.ntmps40 (by rw [Try.results40]) mixed Try.func40 (by kernel_rfl) (by kernel_rfl) (by kernel_rfl) (by kernel_rfl) (by simp) h
noncomputable def w3t_40:=w3t Try.prog 16 V40
noncomputable def hk40 := And.intro @c40_1_s <| And.intro @c40_s <| @w3t_40
-- K40: ↓hk40
/-! ### vouch/vouchref09.Known -/
def V55 : Nat → Bool := fun i => [0, 1, 2, 4].elem i
noncomputable def c55:Code:=(Try.f55.body.getD .skip)
noncomputable def o55_0:Array Oper:=rO (cL c55)
noncomputable def c55_1:Code:=(cR c55)
noncomputable def o55_1:Array Oper:=rO (cL c55_1)
noncomputable def b55_1:List Row:=[(0, 0, 4, 6, true), (1, 1, 32, 7, true), (0, 0, 4, 8, true), (0, 0, 2, 9, true), (12, 12, 384, 10, false), (18, 31, 576, 11, false), (63, 63, 1040, 0, false)]
noncomputable def c55_1_s:=@s_drw Try.prog 11 V55 c55_1 .ret 1 o55_1 b55_1 7 (fun N T M G H k e w =>
    T (FrX none w) (xv (Instr.fieldAt 34 (e 2) 2)) fun t5 =>
    T (FrX (some []) w) (xv (Instr.loadAt 2 t5)) fun t6 =>
    T (FrX (some []) w) (xv (Instr.loadAt 34 (e 2))) fun t7 =>
    M (e 1) fun t8 =>
    N (xcall (Value.func (Fn.func 68) #[] #[]) [t7, t8]) w fun t9 w4 =>
    FrX (some []) w w4 ∧ (N (xcall (Value.func (Fn.func 56) #[] #[]) [t6, t9]) w4 fun t10 w5 =>
    N (xu (Instr.storeAt 84 (e 4) t10)) w5 fun _ w6 =>
    k e w6)) (by kernel_rfl) (by kernel_rfl) (by kernel_rfl) (by intros; kernel_rfl)
noncomputable def c55_s:=@s_reg Try.prog 11 V55 c55 c55_1 0 o55_0 (fun N M G k e w =>
    N (xv (Instr.box 34 (e 0))) w fun t2 w =>
    N (xv (Instr.alloc 84 true (.tuple #[]))) w fun t4 w =>
    k (Env.p (Env.p e 2 t2) 4 t4) w) (by kernel_rfl) (by intros; kernel_rfl)
theorem call55 {a0 a1 : Value} {w : World} {R : Value → World → Prop} (h : W3 Try.prog 11 V55 c55 (retQ Try.prog [.cell 4 84] R) (argE [a0, a1]) w) : CallsN Try.prog 55 [a0, a1] w R :=
  callsN_of_W3 (c := c55) (rs := [.cell 4 84]) V55 Try.ntmps55 (by rw [Try.results55]) mixed Try.func55 (by kernel_rfl) (by kernel_rfl) (by kernel_rfl) (by kernel_rfl) (by simp) h
noncomputable def w3t_55:=w3t Try.prog 11 V55
noncomputable def hk55 := And.intro @c55_1_s <| And.intro @c55_s <| @w3t_55
-- K55: ↓hk55
/-! ### vouch/vouchref09.End -/
def V68 : Nat → Bool := fun i => [0, 1, 2, 4, 7].elem i
noncomputable def c68:Code:=(Try.f68.body.getD .skip)
noncomputable def o68_0:Array Oper:=rO (cL c68)
noncomputable def c68_1:Code:=(cR c68)
noncomputable def c68_2:Code:=(cR c68_1)
noncomputable def o68_3:Array Oper:=rO (cL c68_2)
noncomputable def c68_3:Code:=(cL c68_1)
noncomputable def o68_1:Array Oper:=rO (cL c68_3)
noncomputable def c68_4:Code:=(cR c68_3)
noncomputable def c68_5:Code:=(cL c68_4)
noncomputable def o68_2:Array Oper:=rO (cL c68_5)
noncomputable def c68_2_s:=@s_reg Try.prog 13 V68 c68_2 .ret 3 o68_3 (fun N M G k e w =>
    N (xv (Instr.fieldAt 34 (e 2) 3)) w fun t11 w =>
    N (xv (Instr.loadAt 2 t11)) w fun t12 w =>
    M t12 fun t4 =>
    k (Env.p e 4 t4) w) (by kernel_rfl) (by intros; kernel_rfl)
noncomputable def c68_5_s:=@s_reg Try.prog 13 V68 c68_5 .ret 2 o68_2 (fun N M G k e w =>
    M (e 1) fun t8 =>
    N (xcall (Value.func (Fn.func 82) #[] #[]) [t8]) w fun t9 w =>
    N (xv (xbin BinOp.add 2 (Operand.tmp 9) (Operand.const (Value.int IntKind.i64 1)) t9 (Value.int IntKind.i64 1))) w fun t10 w =>
    M t10 fun t4 =>
    k (Env.p e 4 t4) w) (by kernel_rfl) (by intros; kernel_rfl)
noncomputable def c68_4_s:=@s_cond Try.prog 13 V68 c68_4 .skip 7 c68_5 (by kernel_rfl) (by kernel_rfl)
noncomputable def c68_3_s:=@s_reg Try.prog 13 V68 c68_3 c68_4 1 o68_1 (fun N M G k e w =>
    N (xv (Instr.fieldAt 34 (e 2) 3)) w fun t5 w =>
    N (xv (Instr.loadAt 2 t5)) w fun t6 w =>
    N (xv (xbin BinOp.eql 2 (Operand.tmp 6) (Operand.const (Value.int IntKind.i64 4611686018427387904)) t6 (Value.int IntKind.i64 4611686018427387904))) w fun t7 w =>
    k (Env.p e 7 t7) w) (by kernel_rfl) (by intros; kernel_rfl)
noncomputable def c68_1_s:=@s_seq Try.prog 13 V68 c68_1 c68_2 c68_3 (by kernel_rfl)
noncomputable def c68_s:=@s_reg Try.prog 13 V68 c68 c68_1 0 o68_0 (fun N M G k e w =>
    N (xv (Instr.box 34 (e 0))) w fun t2 w =>
    M (Value.int IntKind.i64 0) fun t4 =>
    k (Env.p (Env.p e 2 t2) 4 t4) w) (by kernel_rfl) (by intros; kernel_rfl)
theorem call68 {a0 a1 : Value} {w : World} {R : Value → World → Prop} (h : W3 Try.prog 13 V68 c68 (retQ Try.prog [.tmp 4] R) (argE [a0, a1]) w) : CallsN Try.prog 68 [a0, a1] w R :=
  callsN_of_W3 (c := c68) (rs := [.tmp 4]) V68 Try.ntmps68 (by rw [Try.results68]) mixed Try.func68 (by kernel_rfl) (by kernel_rfl) (by kernel_rfl) (by kernel_rfl) (by simp) h
noncomputable def w3t_68:=w3t Try.prog 13 V68
noncomputable def hk68 := And.intro @c68_2_s <| And.intro @c68_5_s <| And.intro @c68_4_s <| And.intro @c68_3_s <| And.intro @c68_1_s <| And.intro @c68_s <| @w3t_68
-- K68: ↓hk68
/-! ### vouch/vouchref09.Position -/
def V82 : Nat → Bool := fun i => [0, 2, 4, 6].elem i
noncomputable def c82:Code:=(Try.f82.body.getD .skip)
noncomputable def o82_0:Array Oper:=rO (cL c82)
noncomputable def c82_1:Code:=(cR c82)
noncomputable def c82_2:Code:=(cR c82_1)
noncomputable def c82_3:Code:=(cR c82_2)
noncomputable def o82_5:Array Oper:=rO (cL c82_3)
noncomputable def c82_4:Code:=(cL c82_2)
noncomputable def o82_3:Array Oper:=rO (cL c82_4)
noncomputable def c82_5:Code:=(cR c82_4)
noncomputable def c82_6:Code:=(cL c82_5)
noncomputable def o82_4:Array Oper:=rO (cL c82_6)
noncomputable def c82_7:Code:=(cL c82_1)
noncomputable def o82_1:Array Oper:=rO (cL c82_7)
noncomputable def c82_8:Code:=(cR c82_7)
noncomputable def c82_9:Code:=(cL c82_8)
noncomputable def o82_2:Array Oper:=rO (cL c82_9)
noncomputable def c82_3_s:=@s_reg Try.prog 8 V82 c82_3 .ret 5 o82_5 (fun N M G k e w =>
    M (e 0) fun t7 =>
    M t7 fun t2 =>
    k (Env.p e 2 t2) w) (by kernel_rfl) (by intros; kernel_rfl)
noncomputable def c82_6_s:=@s_reg Try.prog 8 V82 c82_6 .ret 4 o82_4 (fun N M G k e w =>
    M (Value.int IntKind.i64 1099511627776) fun t2 =>
    k (Env.p e 2 t2) w) (by kernel_rfl) (by intros; kernel_rfl)
noncomputable def c82_5_s:=@s_cond Try.prog 8 V82 c82_5 .skip 6 c82_6 (by kernel_rfl) (by kernel_rfl)
noncomputable def c82_4_s:=@s_reg Try.prog 8 V82 c82_4 c82_5 3 o82_3 (fun N M G k e w =>
    M (e 0) fun t5 =>
    N (xv (xbin BinOp.gtr 2 (Operand.tmp 5) (Operand.const (Value.int IntKind.i64 1099511627776)) t5 (Value.int IntKind.i64 1099511627776))) w fun t6 w =>
    k (Env.p e 6 t6) w) (by kernel_rfl) (by intros; kernel_rfl)
noncomputable def c82_2_s:=@s_seq Try.prog 8 V82 c82_2 c82_3 c82_4 (by kernel_rfl)
noncomputable def c82_9_s:=@s_reg Try.prog 8 V82 c82_9 .ret 2 o82_2 (fun N M G k e w =>
    M (Value.int IntKind.i64 0) fun t2 =>
    k (Env.p e 2 t2) w) (by kernel_rfl) (by intros; kernel_rfl)
noncomputable def c82_8_s:=@s_cond Try.prog 8 V82 c82_8 .skip 4 c82_9 (by kernel_rfl) (by kernel_rfl)
noncomputable def c82_7_s:=@s_reg Try.prog 8 V82 c82_7 c82_8 1 o82_1 (fun N M G k e w =>
    M (e 0) fun t3 =>
    N (xv (xbin BinOp.lss 2 (Operand.tmp 3) (Operand.const (Value.int IntKind.i64 0)) t3 (Value.int IntKind.i64 0))) w fun t4 w =>
    k (Env.p e 4 t4) w) (by kernel_rfl) (by intros; kernel_rfl)
noncomputable def c82_1_s:=@s_seq Try.prog 8 V82 c82_1 c82_2 c82_7 (by kernel_rfl)
noncomputable def c82_s:=@s_reg Try.prog 8 V82 c82 c82_1 0 o82_0 (fun N M G k e w =>
    M (Value.int IntKind.i64 0) fun t2 =>
    k (Env.p e 2 t2) w) (by kernel_rfl) (by intros; kernel_rfl)
theorem call82 {a0 : Value} {w : World} {R : Value → World → Prop} (h : W3 Try.prog 8 V82 c82 (retQ Try.prog [.tmp 2] R) (argE [a0]) w) : CallsN Try.prog 82 [a0] w R :=
  callsN_of_W3 (c := c82) (rs := [.tmp 2]) V82 Try.ntmps82 (by rw [Try.results82]) mixed Try.func82 (by kernel_rfl) (by kernel_rfl) (by kernel_rfl) (by kernel_rfl) (by simp) h
noncomputable def w3t_82:=w3t Try.prog 8 V82
noncomputable def hk82 := And.intro @c82_3_s <| And.intro @c82_6_s <| And.intro @c82_5_s <| And.intro @c82_4_s <| And.intro @c82_2_s <| And.intro @c82_9_s <| And.intro @c82_8_s <| And.intro @c82_7_s <| And.intro @c82_1_s <| And.intro @c82_s <| @w3t_82
-- K82: ↓hk82
/-! ### vouch/vouchref05.GoodKey -/
def V52 : Nat → Bool := fun i => [0, 2].elem i
noncomputable def c52:Code:=(Try.f52.body.getD .skip)
noncomputable def o52_0:Array Oper:=rO (cL c52)
noncomputable def c52_1:Code:=(cR c52)
noncomputable def o52_1:Array Oper:=rO (cL c52_1)
noncomputable def c52_1_s:=@s_reg Try.prog 10 V52 c52_1 .ret 1 o52_1 (fun N M G k e w =>
    M (e 0) fun t3 =>
    N (xv (xbin BinOp.neq 9 (Operand.tmp 3) (Operand.const (Value.string ⟨#[]⟩)) t3 (Value.string ⟨#[]⟩))) w fun t4 w =>
    M t4 fun t5 =>
    G (isB t5 true) (fun K => M (e 0) fun v => K v w) (fun t6 w =>
    G (isB t5 true) (fun K => N (builtin Builtin.len #[9] 3 ([false]).toArray ([t6]).toArray) w K) (fun t7 w =>
    G (isB t5 true) (fun K => N (xv (xbin BinOp.leq 3 (Operand.tmp 7) (Operand.const (Value.int IntKind.i64 32)) t7 (Value.int IntKind.i64 32))) w K) (fun t8 w =>
    N (xpick t5 t8 (Value.bool false)) w fun t9 w =>
    M t9 fun t2 =>
    k (Env.p e 2 t2) w) w) w) w) (by kernel_rfl) (by intros; kernel_rfl)
noncomputable def c52_s:=@s_reg Try.prog 10 V52 c52 c52_1 0 o52_0 (fun N M G k e w =>
    M (Value.bool false) fun t2 =>
    k (Env.p e 2 t2) w) (by kernel_rfl) (by intros; kernel_rfl)
theorem call52 {a0 : Value} {w : World} {R : Value → World → Prop} (h : W3 Try.prog 10 V52 c52 (retQ Try.prog [.tmp 2] R) (argE [a0]) w) : CallsN Try.prog 52 [a0] w R :=
  callsN_of_W3 (c := c52) (rs := [.tmp 2]) V52 Try.ntmps52 (by rw [Try.results52]) mixed Try.func52 (by kernel_rfl) (by kernel_rfl) (by kernel_rfl) (by kernel_rfl) (by simp) h
noncomputable def w3t_52:=w3t Try.prog 10 V52
noncomputable def hk52 := And.intro @c52_1_s <| And.intro @c52_s <| @w3t_52
-- K52: ↓hk52
/-! ### vouch/vouchref05.GoodValue -/
def V53 : Nat → Bool := fun i => [0, 1, 2, 5].elem i
noncomputable def c53:Code:=(Try.f53.body.getD .skip)
noncomputable def o53_0:Array Oper:=rO (cL c53)
noncomputable def c53_1:Code:=(cR c53)
noncomputable def c53_2:Code:=(cR c53_1)
noncomputable def o53_3:Array Oper:=rO (cL c53_2)
noncomputable def c53_3:Code:=(cL c53_1)
noncomputable def o53_1:Array Oper:=rO (cL c53_3)
noncomputable def c53_4:Code:=(cR c53_3)
noncomputable def c53_5:Code:=(cL c53_4)
noncomputable def o53_2:Array Oper:=rO (cL c53_5)
noncomputable def c53_2_s:=@s_reg Try.prog 13 V53 c53_2 .ret 3 o53_3 (fun N M G k e w =>
    N (xv (Instr.fieldAt 32 (e 1) 1)) w fun t9 w =>
    N (xv (Instr.loadAt 9 t9)) w fun t10 w =>
    N (builtin Builtin.len #[9] 3 ([false]).toArray ([t10]).toArray) w fun t11 w =>
    N (xv (xbin BinOp.leq 3 (Operand.tmp 11) (Operand.const (Value.int IntKind.i64 256)) t11 (Value.int IntKind.i64 256))) w fun t12 w =>
    M t12 fun t2 =>
    k (Env.p e 2 t2) w) (by kernel_rfl) (by intros; kernel_rfl)
noncomputable def c53_5_s:=@s_reg Try.prog 13 V53 c53_5 .ret 2 o53_2 (fun N M G k e w =>
    N (xv (Instr.fieldAt 32 (e 1) 1)) w fun t6 w =>
    N (xv (Instr.loadAt 9 t6)) w fun t7 w =>
    N (xv (xbin BinOp.eql 9 (Operand.tmp 7) (Operand.const (Value.string ⟨#[]⟩)) t7 (Value.string ⟨#[]⟩))) w fun t8 w =>
    M t8 fun t2 =>
    k (Env.p e 2 t2) w) (by kernel_rfl) (by intros; kernel_rfl)
noncomputable def c53_4_s:=@s_cond Try.prog 13 V53 c53_4 .skip 5 c53_5 (by kernel_rfl) (by kernel_rfl)
noncomputable def c53_3_s:=@s_reg Try.prog 13 V53 c53_3 c53_4 1 o53_1 (fun N M G k e w =>
    N (xv (Instr.fieldAt 32 (e 1) 0)) w fun t3 w =>
    N (xv (Instr.loadAt 4 t3)) w fun t4 w =>
    N (xv (Op.unary UnOp.not t4)) w fun t5 w =>
    k (Env.p e 5 t5) w) (by kernel_rfl) (by intros; kernel_rfl)
noncomputable def c53_1_s:=@s_seq Try.prog 13 V53 c53_1 c53_2 c53_3 (by kernel_rfl)
noncomputable def c53_s:=@s_reg Try.prog 13 V53 c53 c53_1 0 o53_0 (fun N M G k e w =>
    N (xv (Instr.box 32 (e 0))) w fun t1 w =>
    M (Value.bool false) fun t2 =>
    k (Env.p (Env.p e 1 t1) 2 t2) w) (by kernel_rfl) (by intros; kernel_rfl)
theorem call53 {a0 : Value} {w : World} {R : Value → World → Prop} (h : W3 Try.prog 13 V53 c53 (retQ Try.prog [.tmp 2] R) (argE [a0]) w) : CallsN Try.prog 53 [a0] w R :=
  callsN_of_W3 (c := c53) (rs := [.tmp 2]) V53 Try.ntmps53 (by rw [Try.results53]) mixed Try.func53 (by kernel_rfl) (by kernel_rfl) (by kernel_rfl) (by kernel_rfl) (by simp) h
noncomputable def w3t_53:=w3t Try.prog 13 V53
noncomputable def hk53 := And.intro @c53_2_s <| And.intro @c53_5_s <| And.intro @c53_4_s <| And.intro @c53_3_s <| And.intro @c53_1_s <| And.intro @c53_s <| @w3t_53
-- K53: ↓hk53
/-! ### vouch/vouchref01.Of -/
def V56 : Nat → Bool := fun i => [0, 1, 4, 5, 10].elem i
noncomputable def c56:Code:=(Try.f56.body.getD .skip)
noncomputable def o56_0:Array Oper:=rO (cL c56)
noncomputable def c56_1:Code:=(cR c56)
noncomputable def o56_1:Array Oper:=rO (cL c56_1)
noncomputable def c56_2:Code:=(cR c56_1)
noncomputable def c56_3:Code:=(cR c56_2)
noncomputable def o56_4:Array Oper:=rO (cL c56_3)
noncomputable def c56_4:Code:=(cL c56_2)
noncomputable def o56_2:Array Oper:=rO (cL c56_4)
noncomputable def c56_5:Code:=(cR c56_4)
noncomputable def c56_6:Code:=(cL c56_5)
noncomputable def o56_3:Array Oper:=rO (cL c56_6)
noncomputable def c56_3_s:=@s_reg Try.prog 13 V56 c56_3 .ret 4 o56_4 (fun N M G k e w =>
    N (xv (Instr.loadAt 84 (e 5))) w fun t12 w =>
    N (xu (Instr.storeAt 84 (e 4) t12)) w fun _ w =>
    k e w) (by kernel_rfl) (by intros; kernel_rfl)
noncomputable def c56_6_s:=@s_reg Try.prog 13 V56 c56_6 .ret 3 o56_3 (fun N M G k e w =>
    N (xv (Instr.build 84 ([]).toArray)) w fun t11 w =>
    N (xu (Instr.storeAt 84 (e 4) t11)) w fun _ w =>
    k e w) (by kernel_rfl) (by intros; kernel_rfl)
noncomputable def c56_5_s:=@s_cond Try.prog 13 V56 c56_5 .skip 10 c56_6 (by kernel_rfl) (by kernel_rfl)
noncomputable def c56_4_s:=@s_reg Try.prog 13 V56 c56_4 c56_5 2 o56_2 (fun N M G k e w =>
    N (xv (Instr.loadAt 84 (e 5))) w fun t9 w =>
    N (xcall (Value.func (Fn.func 66) #[] #[]) [t9]) w fun t10 w =>
    k (Env.p e 10 t10) w) (by kernel_rfl) (by intros; kernel_rfl)
noncomputable def c56_2_s:=@s_seq Try.prog 13 V56 c56_2 c56_3 c56_4 (by kernel_rfl)
noncomputable def c56_1_s:=@s_reg Try.prog 13 V56 c56_1 c56_2 1 o56_1 (fun N M G k e w =>
    M (e 0) fun t6 =>
    M (e 1) fun t7 =>
    N (xv (Instr.build 84 ([(0, t6), (1, t7)]).toArray)) w fun t8 w =>
    N (xv (Instr.alloc 84 true (.tuple #[]))) w fun t5 w =>
    N (xu (Instr.storeAt 84 t5 t8)) w fun _ w =>
    k (Env.p e 5 t5) w) (by kernel_rfl) (by intros; kernel_rfl)
noncomputable def c56_s:=@s_reg Try.prog 13 V56 c56 c56_1 0 o56_0 (fun N M G k e w =>
    N (xv (Instr.alloc 84 true (.tuple #[]))) w fun t4 w =>
    k (Env.p e 4 t4) w) (by kernel_rfl) (by intros; kernel_rfl)
theorem call56 {a0 a1 : Value} {w : World} {R : Value → World → Prop} (h : W3 Try.prog 13 V56 c56 (retQ Try.prog [.cell 4 84] R) (argE [a0, a1]) w) : CallsN Try.prog 56 [a0, a1] w R :=
  callsN_of_W3 (c := c56) (rs := [.cell 4 84]) V56 Try.ntmps56 (by rw [Try.results56]) mixed Try.func56 (by kernel_rfl) (by kernel_rfl) (by kernel_rfl) (by kernel_rfl) (by simp) h
noncomputable def w3t_56:=w3t Try.prog 13 V56
noncomputable def hk56 := And.intro @c56_3_s <| And.intro @c56_6_s <| And.intro @c56_5_s <| And.intro @c56_4_s <| And.intro @c56_2_s <| And.intro @c56_1_s <| And.intro @c56_s <| @w3t_56
-- K56: ↓hk56
/-! ### vouch/vouchref01.Meets -/
def V54 : Nat → Bool := fun i => [0, 1, 2, 3, 4].elem i
noncomputable def c54:Code:=(Try.f54.body.getD .skip)
noncomputable def o54_0:Array Oper:=rO (cL c54)
noncomputable def c54_1:Code:=(cR c54)
noncomputable def o54_1:Array Oper:=rO (cL c54_1)
noncomputable def c54_1_s:=@s_reg Try.prog 10 V54 c54_1 .ret 1 o54_1 (fun N M G k e w =>
    N (xv (Instr.loadAt 84 (e 2))) w fun t5 w =>
    N (xv (Instr.loadAt 84 (e 3))) w fun t6 w =>
    N (xcall (Value.func (Fn.func 67) #[] #[]) [t5, t6]) w fun t7 w =>
    N (xcall (Value.func (Fn.func 66) #[] #[]) [t7]) w fun t8 w =>
    N (xv (Op.unary UnOp.not t8)) w fun t9 w =>
    M t9 fun t4 =>
    k (Env.p e 4 t4) w) (by kernel_rfl) (by intros; kernel_rfl)
noncomputable def c54_s:=@s_reg Try.prog 10 V54 c54 c54_1 0 o54_0 (fun N M G k e w =>
    N (xv (Instr.box 84 (e 0))) w fun t2 w =>
    N (xv (Instr.box 84 (e 1))) w fun t3 w =>
    M (Value.bool false) fun t4 =>
    k (Env.p (Env.p (Env.p e 2 t2) 3 t3) 4 t4) w) (by kernel_rfl) (by intros; kernel_rfl)
theorem call54 {a0 a1 : Value} {w : World} {R : Value → World → Prop} (h : W3 Try.prog 10 V54 c54 (retQ Try.prog [.tmp 4] R) (argE [a0, a1]) w) : CallsN Try.prog 54 [a0, a1] w R :=
  callsN_of_W3 (c := c54) (rs := [.tmp 4]) V54 Try.ntmps54 (by rw [Try.results54]) mixed Try.func54 (by kernel_rfl) (by kernel_rfl) (by kernel_rfl) (by kernel_rfl) (by simp) h
noncomputable def w3t_54:=w3t Try.prog 10 V54
noncomputable def hk54 := And.intro @c54_1_s <| And.intro @c54_s <| @w3t_54
-- K54: ↓hk54
/-! ### vouch/vouchref01.Meet -/
def V67 : Nat → Bool := fun i => [0, 1, 2, 3, 4, 5, 6, 12, 21, 27].elem i
noncomputable def c67:Code:=(Try.f67.body.getD .skip)
noncomputable def o67_0:Array Oper:=rO (cL c67)
noncomputable def c67_1:Code:=(cR c67)
noncomputable def c67_2:Code:=(cR c67_1)
noncomputable def o67_3:Array Oper:=rO (cL c67_2)
noncomputable def b67_3:List Row:=[(0, 0, 4, 15, true), (1, 1, 16384, 16, true), (0, 0, 4, 17, true), (4, 4, 65536, 18, true), (3, 3, 32768, 6, true), (31, 31, 131072, 7, true)]
noncomputable def c67_3:Code:=(cR c67_2)
noncomputable def c67_4:Code:=(cR c67_3)
noncomputable def c67_5:Code:=(cR c67_4)
noncomputable def o67_8:Array Oper:=rO (cL c67_5)
noncomputable def c67_6:Code:=(cL c67_4)
noncomputable def o67_6:Array Oper:=rO (cL c67_6)
noncomputable def c67_7:Code:=(cR c67_6)
noncomputable def c67_8:Code:=(cL c67_7)
noncomputable def o67_7:Array Oper:=rO c67_8
noncomputable def c67_9:Code:=(cL c67_3)
noncomputable def o67_4:Array Oper:=rO (cL c67_9)
noncomputable def c67_10:Code:=(cR c67_9)
noncomputable def c67_11:Code:=(cL c67_10)
noncomputable def o67_5:Array Oper:=rO c67_11
noncomputable def c67_12:Code:=(cL c67_1)
noncomputable def o67_1:Array Oper:=rO (cL c67_12)
noncomputable def c67_13:Code:=(cR c67_12)
noncomputable def c67_14:Code:=(cL c67_13)
noncomputable def o67_2:Array Oper:=rO (cL c67_14)
noncomputable def c67_5_s:=@s_reg Try.prog 33 V67 c67_5 .ret 8 o67_8 (fun N M G k e w =>
    M (e 5) fun t30 =>
    M (e 6) fun t31 =>
    N (xcall (Value.func (Fn.func 56) #[] #[]) [t30, t31]) w fun t32 w =>
    N (xu (Instr.storeAt 84 (e 4) t32)) w fun _ w =>
    k e w) (by kernel_rfl) (by intros; kernel_rfl)
noncomputable def c67_8_s:=@s_rend Try.prog 33 V67 c67_8 7 o67_7 (fun N M G k e w =>
    N (xv (Instr.fieldAt 84 (e 3) 1)) w fun t28 w =>
    N (xv (Instr.loadAt 2 t28)) w fun t29 w =>
    M t29 fun t6 =>
    k (Env.p e 6 t6) w) (by kernel_rfl) (by intros; kernel_rfl)
noncomputable def c67_7_s:=@s_cond Try.prog 33 V67 c67_7 .skip 27 c67_8 (by kernel_rfl) (by kernel_rfl)
noncomputable def c67_6_s:=@s_reg Try.prog 33 V67 c67_6 c67_7 6 o67_6 (fun N M G k e w =>
    N (xv (Instr.fieldAt 84 (e 3) 1)) w fun t24 w =>
    N (xv (Instr.loadAt 2 t24)) w fun t25 w =>
    M (e 6) fun t26 =>
    N (xv (xbin BinOp.lss 2 (Operand.tmp 25) (Operand.tmp 26) t25 t26)) w fun t27 w =>
    k (Env.p e 27 t27) w) (by kernel_rfl) (by intros; kernel_rfl)
noncomputable def c67_4_s:=@s_seq Try.prog 33 V67 c67_4 c67_5 c67_6 (by kernel_rfl)
noncomputable def c67_11_s:=@s_rend Try.prog 33 V67 c67_11 5 o67_5 (fun N M G k e w =>
    N (xv (Instr.fieldAt 84 (e 3) 0)) w fun t22 w =>
    N (xv (Instr.loadAt 2 t22)) w fun t23 w =>
    M t23 fun t5 =>
    k (Env.p e 5 t5) w) (by kernel_rfl) (by intros; kernel_rfl)
noncomputable def c67_10_s:=@s_cond Try.prog 33 V67 c67_10 .skip 21 c67_11 (by kernel_rfl) (by kernel_rfl)
noncomputable def c67_9_s:=@s_reg Try.prog 33 V67 c67_9 c67_10 4 o67_4 (fun N M G k e w =>
    N (xv (Instr.fieldAt 84 (e 3) 0)) w fun t18 w =>
    N (xv (Instr.loadAt 2 t18)) w fun t19 w =>
    M (e 5) fun t20 =>
    N (xv (xbin BinOp.gtr 2 (Operand.tmp 19) (Operand.tmp 20) t19 t20)) w fun t21 w =>
    k (Env.p e 21 t21) w) (by kernel_rfl) (by intros; kernel_rfl)
noncomputable def c67_3_s:=@s_seq Try.prog 33 V67 c67_3 c67_4 c67_9 (by kernel_rfl)
noncomputable def c67_2_s:=@s_drw Try.prog 33 V67 c67_2 c67_3 3 o67_3 b67_3 6 (fun N T M G H k e w =>
    T (FrX none w) (xv (Instr.fieldAt 84 (e 2) 0)) fun t14 =>
    T (FrX (some []) w) (xv (Instr.loadAt 2 t14)) fun t15 =>
    T (FrX none w) (xv (Instr.fieldAt 84 (e 2) 1)) fun t16 =>
    T (FrX (some []) w) (xv (Instr.loadAt 2 t16)) fun t17 =>
    M t15 fun t5 =>
    M t17 fun t6 =>
    k (Env.p (Env.p e 5 t5) 6 t6) w) (by kernel_rfl) (by kernel_rfl) (by kernel_rfl) (by intros; kernel_rfl)
noncomputable def c67_14_s:=@s_reg Try.prog 33 V67 c67_14 .ret 2 o67_2 (fun N M G k e w =>
    N (xv (Instr.build 84 ([]).toArray)) w fun t13 w =>
    N (xu (Instr.storeAt 84 (e 4) t13)) w fun _ w =>
    k e w) (by kernel_rfl) (by intros; kernel_rfl)
noncomputable def c67_13_s:=@s_cond Try.prog 33 V67 c67_13 .skip 12 c67_14 (by kernel_rfl) (by kernel_rfl)
noncomputable def c67_12_s:=@s_reg Try.prog 33 V67 c67_12 c67_13 1 o67_1 (fun N M G k e w =>
    N (xv (Instr.loadAt 84 (e 2))) w fun t7 w =>
    N (xcall (Value.func (Fn.func 66) #[] #[]) [t7]) w fun t8 w =>
    M t8 fun t9 =>
    G (isB t9 false) (fun K => N (xv (Instr.loadAt 84 (e 3))) w K) (fun t10 w =>
    G (isB t9 false) (fun K => N (xcall (Value.func (Fn.func 66) #[] #[]) [t10]) w K) (fun t11 w =>
    N (xpick t9 (Value.bool true) t11) w fun t12 w =>
    k (Env.p e 12 t12) w) w) w) (by kernel_rfl) (by intros; kernel_rfl)
noncomputable def c67_1_s:=@s_seq Try.prog 33 V67 c67_1 c67_2 c67_12 (by kernel_rfl)
noncomputable def c67_s:=@s_reg Try.prog 33 V67 c67 c67_1 0 o67_0 (fun N M G k e w =>
    N (xv (Instr.box 84 (e 0))) w fun t2 w =>
    N (xv (Instr.box 84 (e 1))) w fun t3 w =>
    N (xv (Instr.alloc 84 true (.tuple #[]))) w fun t4 w =>
    k (Env.p (Env.p (Env.p e 2 t2) 3 t3) 4 t4) w) (by kernel_rfl) (by intros; kernel_rfl)
theorem call67 {a0 a1 : Value} {w : World} {R : Value → World → Prop} (h : W3 Try.prog 33 V67 c67 (retQ Try.prog [.cell 4 84] R) (argE [a0, a1]) w) : CallsN Try.prog 67 [a0, a1] w R :=
  callsN_of_W3 (c := c67) (rs := [.cell 4 84]) V67 Try.ntmps67 (by rw [Try.results67]) mixed Try.func67 (by kernel_rfl) (by kernel_rfl) (by kernel_rfl) (by kernel_rfl) (by simp) h
noncomputable def w3t_67:=w3t Try.prog 33 V67
noncomputable def hk67 := And.intro @c67_5_s <| And.intro @c67_8_s <| And.intro @c67_7_s <| And.intro @c67_6_s <| And.intro @c67_4_s <| And.intro @c67_11_s <| And.intro @c67_10_s <| And.intro @c67_9_s <| And.intro @c67_3_s <| And.intro @c67_2_s <| And.intro @c67_14_s <| And.intro @c67_13_s <| And.intro @c67_12_s <| And.intro @c67_1_s <| And.intro @c67_s <| @w3t_67
-- K67: ↓hk67
/-! ### vouch/vouchref01.Empty -/
def V66 : Nat → Bool := fun i => [0, 1, 2].elem i
noncomputable def c66:Code:=(Try.f66.body.getD .skip)
noncomputable def o66_0:Array Oper:=rO (cL c66)
noncomputable def c66_1:Code:=(cR c66)
noncomputable def o66_1:Array Oper:=rO (cL c66_1)
noncomputable def c66_1_s:=@s_reg Try.prog 8 V66 c66_1 .ret 1 o66_1 (fun N M G k e w =>
    N (xv (Instr.loadAt 84 (e 1))) w fun t3 w =>
    N (xv (Instr.fieldAt 84 (e 1) 0)) w fun t4 w =>
    N (xv (Instr.loadAt 2 t4)) w fun t5 w =>
    N (xcall (Value.func (Fn.func 81) #[] #[]) [t3, t5]) w fun t6 w =>
    N (xv (Op.unary UnOp.not t6)) w fun t7 w =>
    M t7 fun t2 =>
    k (Env.p e 2 t2) w) (by kernel_rfl) (by intros; kernel_rfl)
noncomputable def c66_s:=@s_reg Try.prog 8 V66 c66 c66_1 0 o66_0 (fun N M G k e w =>
    N (xv (Instr.box 84 (e 0))) w fun t1 w =>
    M (Value.bool false) fun t2 =>
    k (Env.p (Env.p e 1 t1) 2 t2) w) (by kernel_rfl) (by intros; kernel_rfl)
theorem call66 {a0 : Value} {w : World} {R : Value → World → Prop} (h : W3 Try.prog 8 V66 c66 (retQ Try.prog [.tmp 2] R) (argE [a0]) w) : CallsN Try.prog 66 [a0] w R :=
  callsN_of_W3 (c := c66) (rs := [.tmp 2]) V66 Try.ntmps66 (by rw [Try.results66]) mixed Try.func66 (by kernel_rfl) (by kernel_rfl) (by kernel_rfl) (by kernel_rfl) (by simp) h
noncomputable def w3t_66:=w3t Try.prog 8 V66
noncomputable def hk66 := And.intro @c66_1_s <| And.intro @c66_s <| @w3t_66
-- K66: ↓hk66
/-! ### vouch/vouchref01.Has -/
def V81 : Nat → Bool := fun i => [0, 1, 2, 4].elem i
noncomputable def c81:Code:=(Try.f81.body.getD .skip)
noncomputable def o81_0:Array Oper:=rO (cL c81)
noncomputable def c81_1:Code:=(cR c81)
noncomputable def o81_1:Array Oper:=rO (cL c81_1)
noncomputable def c81_1_s:=@s_reg Try.prog 15 V81 c81_1 .ret 1 o81_1 (fun N M G k e w =>
    M (e 1) fun t5 =>
    N (xv (Instr.fieldAt 84 (e 2) 0)) w fun t6 w =>
    N (xv (Instr.loadAt 2 t6)) w fun t7 w =>
    N (xv (xbin BinOp.geq 2 (Operand.tmp 5) (Operand.tmp 7) t5 t7)) w fun t8 w =>
    M t8 fun t9 =>
    G (isB t9 true) (fun K => M (e 1) fun v => K v w) (fun t10 w =>
    G (isB t9 true) (fun K => N (xv (Instr.fieldAt 84 (e 2) 1)) w K) (fun t11 w =>
    G (isB t9 true) (fun K => N (xv (Instr.loadAt 2 t11)) w K) (fun t12 w =>
    G (isB t9 true) (fun K => N (xv (xbin BinOp.lss 2 (Operand.tmp 10) (Operand.tmp 12) t10 t12)) w K) (fun t13 w =>
    N (xpick t9 t13 (Value.bool false)) w fun t14 w =>
    M t14 fun t4 =>
    k (Env.p e 4 t4) w) w) w) w) w) (by kernel_rfl) (by intros; kernel_rfl)
noncomputable def c81_s:=@s_reg Try.prog 15 V81 c81 c81_1 0 o81_0 (fun N M G k e w =>
    N (xv (Instr.box 84 (e 0))) w fun t2 w =>
    M (Value.bool false) fun t4 =>
    k (Env.p (Env.p e 2 t2) 4 t4) w) (by kernel_rfl) (by intros; kernel_rfl)
theorem call81 {a0 a1 : Value} {w : World} {R : Value → World → Prop} (h : W3 Try.prog 15 V81 c81 (retQ Try.prog [.tmp 4] R) (argE [a0, a1]) w) : CallsN Try.prog 81 [a0, a1] w R :=
  callsN_of_W3 (c := c81) (rs := [.tmp 4]) V81 Try.ntmps81 (by rw [Try.results81]) mixed Try.func81 (by kernel_rfl) (by kernel_rfl) (by kernel_rfl) (by kernel_rfl) (by simp) h
noncomputable def w3t_81:=w3t Try.prog 15 V81
noncomputable def hk81 := And.intro @c81_1_s <| And.intro @c81_s <| @w3t_81
-- K81: ↓hk81
/-! ### vouch/vouchlaw10.TablePlays -/
def V3 : Nat → Bool := fun i => [0, 2, 3, 4, 5, 7, 14, 41].elem i
noncomputable def c3:Code:=(Try.f3.body.getD .skip)
noncomputable def o3_0:Array Oper:=rO (cL c3)
noncomputable def c3_1:Code:=(cR c3)
noncomputable def c3_2:Code:=(cR c3_1)
noncomputable def o3_3:Array Oper:=rO (cL c3_2)
noncomputable def c3_3:Code:=(cR c3_2)
noncomputable def c3_4:Code:=(cR c3_3)
noncomputable def o3_9:Array Oper:=rO (cL c3_4)
noncomputable def b3_9:List Row:=[(0, 0, 8, 43, true), (1, 1, 4398046511104, 44, false), (0, 0, 16, 45, true), (4, 4, 17592186044416, 46, true), (8, 12, 35184372088832, 47, true), (16, 28, 70368744177664, 48, true), (34, 63, 149533581377536, 49, false), (127, 127, 281474976710656, 3, true)]
noncomputable def c3_5:Code:=(cL c3_3)
noncomputable def o3_4:Array Oper:=rO (cL c3_5)
noncomputable def c3_6:Code:=(cR c3_5)
noncomputable def c3_7:Code:=(cL c3_6)
noncomputable def c3_8:Code:=(cL c3_7)
noncomputable def c3_9:Code:=(cR c3_8)
noncomputable def c3_10:Code:=(cR c3_9)
noncomputable def o3_6:Array Oper:=rO c3_10
noncomputable def c3_11:Code:=(cL c3_9)
noncomputable def c3_12:Code:=(cL c3_11)
noncomputable def o3_7:Array Oper:=rO (cL c3_12)
noncomputable def b3_7:List Row:=[(0, 0, 8, 18, true), (0, 0, 16, 19, true), (0, 0, 1, 20, true), (0, 0, 32, 21, true), (12, 12, 1572864, 22, true), (16, 28, 2097152, 23, true), (35, 63, 4587520, 24, false), (64, 127, 8388608, 25, true), (192, 255, 16777216, 26, true), (256, 511, 33554440, 27, true), (768, 1023, 100663296, 28, false), (256, 511, 33554448, 29, true), (2304, 2559, 301989888, 30, true), (4352, 6655, 570425344, 31, true), (8448, 14847, 1107296256, 32, true), (16640, 31231, 2181038080, 33, true), (34048, 65535, 4462739456, 34, true), (65792, 131071, 8623489024, 35, true), (132096, 262143, 17179869184, 36, true), (262144, 524287, 34359738376, 37, true), (786432, 1048575, 103079215104, 38, false), (262144, 524287, 34359738384, 39, true), (3407872, 4194303, 309237645312, 40, false), (5505024, 8388607, 721554505728, 41, true), (8650752, 16777215, 1133871366144, 42, true)]
noncomputable def c3_13:Code:=(cR c3_12)
noncomputable def c3_14:Code:=(cL c3_13)
noncomputable def o3_8:Array Oper:=rO (cL c3_14)
noncomputable def c3_15:Code:=(cL c3_8)
noncomputable def o3_5:Array Oper:=rO (cL c3_15)
noncomputable def c3_16:Code:=(cR c3_15)
noncomputable def c3_17:Code:=(cL c3_1)
noncomputable def o3_1:Array Oper:=rO (cL c3_17)
noncomputable def c3_18:Code:=(cR c3_17)
noncomputable def c3_19:Code:=(cL c3_18)
noncomputable def o3_2:Array Oper:=rO (cL c3_19)
noncomputable def c3_4_s:=@s_drw Try.prog 49 V3 c3_4 .ret 9 o3_9 b3_9 8 (fun N T M G H k e w =>
    M (e 3) fun t42 =>
    M (e 4) fun t44 =>
    T (FrX none w) (xnil t44) fun t45 =>
    T (FrX none w) (xv (Instr.fieldAt 29 t45 0)) fun t46 =>
    T (FrX (some []) w) (xv (Instr.loadAt 27 t46)) fun t47 =>
    N (xcall (Value.func (Fn.func 14) #[] #[]) [t42]) w fun t43 w1 =>
    FrX (some []) w w1 ∧ (N (xcall (Value.func (Fn.func 13) #[] #[]) [t43, t47]) w1 fun t48 w6 =>
    M t48 fun t2 =>
    k (Env.p e 2 t2) w6)) (by kernel_rfl) (by kernel_rfl) (by kernel_rfl) (by intros; kernel_rfl)
noncomputable def c3_10_s:=@s_rend Try.prog 49 V3 c3_10 6 o3_6 (fun N M G k e w =>
    M (e 5) fun t15 =>
    N (xv (xbin BinOp.add 3 (Operand.tmp 15) (Operand.const (Value.int IntKind.i64 1)) t15 (Value.int IntKind.i64 1))) w fun t16 w =>
    M t16 fun t5 =>
    k (Env.p e 5 t5) w) (by kernel_rfl) (by intros; kernel_rfl)
noncomputable def c3_14_s:=@s_reg Try.prog 49 V3 c3_14 .ret 8 o3_8 (fun N M G k e w =>
    M (Value.bool false) fun t2 =>
    k (Env.p e 2 t2) w) (by kernel_rfl) (by intros; kernel_rfl)
noncomputable def c3_13_s:=@s_cond Try.prog 49 V3 c3_13 .skip 41 c3_14 (by kernel_rfl) (by kernel_rfl)
noncomputable def c3_12_s:=@s_drw Try.prog 49 V3 c3_12 c3_13 7 o3_7 b3_7 25 (fun N T M G H k e w =>
    M (e 3) fun t17 =>
    M (e 4) fun t18 =>
    M (e 0) fun t19 =>
    M (e 5) fun t20 =>
    T (FrX none w) (xv (Instr.indexAt 22 t19 t20)) fun t21 =>
    T (FrX (some []) w) (xv (Instr.loadAt 40 t21)) fun t22 =>
    N (xcall (Value.func (Fn.func 9) #[] #[]) [t17, t18, t22]) w fun t23 w6 =>
    T (FrX none w6) (xv (Op.unary UnOp.not t23)) fun t24 =>
    M t24 fun t25 =>
    H (isB t25 false) (fun K => M (e 3) K) (fun t26 =>
    H (isB t25 false) (fun K => M (e 4) K) (fun t28 =>
    H (isB t25 false) (fun K => T (FrX none w6) (xnil t28) K) (fun t29 =>
    H (isB t25 false) (fun K => T (FrX none w6) (xv (Instr.fieldAt 29 t29 0)) K) (fun t30 =>
    H (isB t25 false) (fun K => T (FrX (some []) w6) (xv (Instr.loadAt 27 t30)) K) (fun t31 =>
    H (isB t25 false) (fun K => T (FrX (some []) w6) (builtin Builtin.len #[27] 3 ([false]).toArray ([t31]).toArray) K) (fun t32 =>
    G (isB t25 false) (fun K => N (xcall (Value.func (Fn.func 10) #[] #[]) [t26]) w6 K) (fun t27 w10 =>
    FrX (some []) w6 w10 ∧ (FrX (some []) w6 w10 ∧ (H (isB t25 false) (fun K => T (FrX none w10) (xv (xbin BinOp.neq 3 (Operand.tmp 27) (Operand.tmp 32) t27 t32)) K) (fun t33 =>
    T (FrX none w10) (xpick t25 (Value.bool true) t33) fun t34 =>
    M t34 fun t35 =>
    H (isB t35 false) (fun K => M (e 3) K) (fun t36 =>
    H (isB t35 false) (fun K => M (e 4) K) (fun t38 =>
    G (isB t35 false) (fun K => N (xcall (Value.func (Fn.func 11) #[] #[]) [t36]) w10 K) (fun t37 w20 =>
    G (isB t35 false) (fun K => N (xcall (Value.func (Fn.func 12) #[] #[]) [t38]) w20 K) (fun t39 w22 =>
    H (isB t35 false) (fun K => T (FrX none w22) (xv (xbin BinOp.neq 3 (Operand.tmp 37) (Operand.tmp 39) t37 t39)) K) (fun t40 =>
    T (FrX none w22) (xpick t35 (Value.bool true) t40) fun t41 =>
    k (Env.p e 41 t41) w22)) w20) w10)))))) w6))))))) (by kernel_rfl) (by kernel_rfl) (by kernel_rfl) (by intros; kernel_rfl)
noncomputable def c3_11_s:=@s_block Try.prog 49 V3 c3_11 c3_12 1 (by kernel_rfl)
noncomputable def c3_9_s:=@s_seq Try.prog 49 V3 c3_9 c3_10 c3_11 (by kernel_rfl)
noncomputable def c3_16_s:=@s_cond Try.prog 49 V3 c3_16 (.exit 0) 14 .skip (by kernel_rfl) (by kernel_rfl)
noncomputable def c3_15_s:=@s_reg Try.prog 49 V3 c3_15 c3_16 5 o3_5 (fun N M G k e w =>
    M (e 5) fun t11 =>
    M (e 0) fun t12 =>
    N (builtin Builtin.len #[22] 3 ([false]).toArray ([t12]).toArray) w fun t13 w =>
    N (xv (xbin BinOp.lss 3 (Operand.tmp 11) (Operand.tmp 13) t11 t13)) w fun t14 w =>
    k (Env.p e 14 t14) w) (by kernel_rfl) (by intros; kernel_rfl)
noncomputable def c3_8_s:=@s_seq Try.prog 49 V3 c3_8 c3_9 c3_15 (by kernel_rfl)
noncomputable def c3_7_s:=@s_loop Try.prog 49 V3 c3_7 c3_8 (by kernel_rfl)
noncomputable def c3_6_s:=@s_block Try.prog 49 V3 c3_6 c3_7 0 (by kernel_rfl)
noncomputable def c3_5_s:=@s_reg Try.prog 49 V3 c3_5 c3_6 4 o3_4 (fun N M G k e w =>
    M (Value.int IntKind.i64 0) fun t5 =>
    k (Env.p e 5 t5) w) (by kernel_rfl) (by intros; kernel_rfl)
noncomputable def c3_3_s:=@s_seq Try.prog 49 V3 c3_3 c3_4 c3_5 (by kernel_rfl)
noncomputable def c3_2_s:=@s_reg Try.prog 49 V3 c3_2 c3_3 3 o3_3 (fun N M G k e w =>
    N (xcall (Value.func (Fn.func 8) #[] #[]) []) w fun t8 w =>
    N (xv (Instr.build 29 ([]).toArray)) w fun t9 w =>
    N (xv (Instr.box 29 t9)) w fun t10 w =>
    M t8 fun t3 =>
    M t10 fun t4 =>
    k (Env.p (Env.p e 3 t3) 4 t4) w) (by kernel_rfl) (by intros; kernel_rfl)
noncomputable def c3_19_s:=@s_reg Try.prog 49 V3 c3_19 .ret 2 o3_2 (fun N M G k e w =>
    M (Value.bool false) fun t2 =>
    k (Env.p e 2 t2) w) (by kernel_rfl) (by intros; kernel_rfl)
noncomputable def c3_18_s:=@s_cond Try.prog 49 V3 c3_18 .skip 7 c3_19 (by kernel_rfl) (by kernel_rfl)
noncomputable def c3_17_s:=@s_reg Try.prog 49 V3 c3_17 c3_18 1 o3_1 (fun N M G k e w =>
    N (xcall (Value.func (Fn.func 7) #[] #[]) []) w fun t6 w =>
    N (xv (Op.unary UnOp.not t6)) w fun t7 w =>
    k (Env.p e 7 t7) w) (by kernel_rfl) (by intros; kernel_rfl)
noncomputable def c3_1_s:=@s_seq Try.prog 49 V3 c3_1 c3_2 c3_17 (by kernel_rfl)
noncomputable def c3_s:=@s_reg Try.prog 49 V3 c3 c3_1 0 o3_0 (fun N M G k e w =>
    M (Value.bool false) fun t2 =>
    k (Env.p e 2 t2) w) (by kernel_rfl) (by intros; kernel_rfl)
theorem call3 {a0 : Value} {w : World} {R : Value → World → Prop} (h : W3 Try.prog 49 V3 c3 (retQ Try.prog [.tmp 2] R) (argE [a0]) w) : CallsN Try.prog 3 [a0] w R :=
  callsN_of_W3 (c := c3) (rs := [.tmp 2]) V3 Try.ntmps3 (by rw [Try.results3]) mixed Try.func3 (by kernel_rfl) (by kernel_rfl) (by kernel_rfl) (by kernel_rfl) (by simp) h
noncomputable def w3t_3:=w3t Try.prog 49 V3
noncomputable def hk3 := And.intro @c3_4_s <| And.intro @c3_10_s <| And.intro @c3_14_s <| And.intro @c3_13_s <| And.intro @c3_12_s <| And.intro @c3_11_s <| And.intro @c3_9_s <| And.intro @c3_16_s <| And.intro @c3_15_s <| And.intro @c3_8_s <| And.intro @c3_7_s <| And.intro @c3_6_s <| And.intro @c3_5_s <| And.intro @c3_3_s <| And.intro @c3_2_s <| And.intro @c3_19_s <| And.intro @c3_18_s <| And.intro @c3_17_s <| And.intro @c3_1_s <| And.intro @c3_s <| @w3t_3
-- K3: ↓hk3
end
end Go.Proofs.Ytldmkhakjnglmaa
