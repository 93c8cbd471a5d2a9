/- The equations of the code of some functions, written by the printer gen3.py: each is checked by the kernel. -/
import Derived.Test.YtbbjnplellanaaaDoorQ0
import Derived.Test.YtbbjnplellanaaaDoorCI
set_option linter.unusedVariables false
set_option linter.unusedSimpArgs false
set_option maxRecDepth 100000
namespace Go.Proofs.YtbbjnplellanaaaDoor
open Go.VW
open Go.Instr (loadAt storeAt fieldAt indexAt)
noncomputable section
set_option linter.defProp false
variable {N : NT} {T : T3T} {M : MT} {G : GT} {H : HT} {Y : YT} {k : KT} {Q : Exit → Env → World → Prop} {e el eg : Env} {w u0 u1 u2 u3 u4 u5 u6 u7 u8 u9 : World}
/-! ### vouch/script.Parse -/
def V9 : Nat → Bool := fun i => [0, 2, 3, 4, 5, 6, 7, 8, 9, 11, 12, 13, 16, 19, 20, 21, 22, 37, 38, 39, 40, 41, 49, 57].elem i
def block9:=@s_block Tryd.prog 67 V9
def cond9:=@s_cond Tryd.prog 67 V9
def drw9:=@s_drw Tryd.prog 67 V9
def loop9:=@s_loop Tryd.prog 67 V9
def reg9:=@s_reg Tryd.prog 67 V9
def rend9:=@s_rend Tryd.prog 67 V9
def scope9:=@s_scope Tryd.prog 67 V9
def seq9:=@s_seq Tryd.prog 67 V9
noncomputable def c9:Code:=(Tryd.f9.body.getD .skip)
noncomputable def c9_1:=cR c9
noncomputable def c9_2:=cL c9_1
noncomputable def c9_3:=cR c9_2
noncomputable def c9_4:=cR c9_3
noncomputable def c9_5:=cR c9_4
noncomputable def c9_6:=cR c9_5
noncomputable def c9_7:=cR c9_6
noncomputable def c9_8:=cL c9_6
noncomputable def c9_9:=cR c9_8
noncomputable def c9_10:=cL c9_9
noncomputable def c9_11:=cL c9_10
noncomputable def c9_12:=cR c9_11
noncomputable def c9_13:=cR c9_12
noncomputable def c9_14:=cR c9_13
noncomputable def c9_15:=cL c9_13
noncomputable def c9_16:=cL c9_15
noncomputable def c9_17:=cR c9_16
noncomputable def c9_18:=cR c9_17
noncomputable def c9_19:=cR c9_18
noncomputable def c9_20:=cR c9_19
noncomputable def c9_21:=cL c9_19
noncomputable def c9_22:=cR c9_21
noncomputable def c9_23:=cL c9_22
noncomputable def c9_24:=cL c9_23
noncomputable def c9_25:=cR c9_24
noncomputable def c9_26:=cR c9_25
noncomputable def c9_27:=cR c9_26
noncomputable def c9_28:=cL c9_26
noncomputable def c9_29:=cL c9_28
noncomputable def c9_30:=cR c9_29
noncomputable def c9_31:=cR c9_30
noncomputable def c9_32:=cR c9_31
noncomputable def c9_33:=cR c9_32
noncomputable def c9_34:=cL c9_32
noncomputable def c9_35:=cR c9_34
noncomputable def c9_36:=cL c9_30
noncomputable def b9_13:List Row:=[(0, 0, 2048, 45, true), (1, 1, 17592186044416, 46, true), (0, 0, 512, 47, true), (4, 4, 70368744177664, 48, true), (8, 12, 140737488355328, 49, true), (18, 31, 316659348799488, 50, true)]
noncomputable def c9_37:=cR c9_36
noncomputable def c9_38:=cL c9_25
noncomputable def c9_39:=cL c9_18
noncomputable def c9_40:=cR c9_39
noncomputable def c9_41:=cL c9_12
noncomputable def c9_42:=cL c9_2
noncomputable def c9_43:=cR c9_42
noncomputable def c9_44:=cL c9_43
def c9_7_s:=reg9 c9_7 .ret (fun N M G k e w =>
 M (e 5) fun t66 =>
 M t66 fun t2 =>
 M (.int .i64 0) fun t3 =>
 M (.int .i64 0) fun t4 =>
 k (Env.p (Env.p (Env.p e 2 t2) 3 t3) 4 t4) w)
def c9_14_s:=rend9 c9_14 (fun N M G k e w =>
 N (xv (xbin .add 3 (.tmp 21) (.const (.int .i64 1)) (e 21) (.int .i64 1))) w fun t65 w =>
 M t65 fun t21 =>
 k (Env.p e 21 t21) w)
def c9_20_s:=reg9 c9_20 .ret (fun N M G k e w =>
 M (e 7) fun t63 =>
 N (xv (xbin .add 3 (.tmp 63) (.const (.int .i64 1)) t63 (.int .i64 1))) w fun t64 w =>
 M (.slice none 0 0) fun t2 =>
 M t64 fun t3 =>
 M (.int .i64 60) fun t4 =>
 k (Env.p (Env.p (Env.p e 2 t2) 3 t3) 4 t4) w)
def c9_27_s:=rend9 c9_27 (fun N M G k e w =>
 N (xv (xbin .add 3 (.tmp 40) (.const (.int .i64 1)) (e 40) (.int .i64 1))) w fun t62 w =>
 M t62 fun t40 =>
 k (Env.p e 40 t40) w)
def c9_33_s:=reg9 c9_33 (.exit 1) (fun N M G k e w =>
 M (e 5) fun t58 =>
 N (xv (loadAt 33 (e 12))) w fun t59 w =>
 N (xv (Instr.buildSlice 23 1 ([(0, t59)]).toArray)) w fun t60 w =>
 N (builtin Builtin.append #[23, 23] 23 ([false, false]).toArray ([t58, t60]).toArray) w fun t61 w =>
 M t61 fun t5 =>
 k (Env.p e 5 t5) w)
def c9_35_s:=cond9 c9_35 .skip 57 (.exit 2)
def c9_34_s:=reg9 c9_34 c9_35 (fun N M G k e w =>
 M (e 13) fun t56 =>
 N (xv (Op.unary .not t56)) w fun t57 w =>
 k (Env.p e 57 t57) w)
def c9_32_s:=seq9 c9_32 c9_33 c9_34
def c9_31_s:=reg9 c9_31 c9_32 (fun N M G k e w =>
 N (xv (loadAt 53 (e 11))) w fun t51 w =>
 M (e 9) fun t52 =>
 N (xcall (.func (.func 18) #[] #[]) [t51, t52]) w fun t53 w =>
 M t53 fun t50 =>
 N (xv (Instr.extract t50 0)) w fun t54 w =>
 N (xv (Instr.extract t50 1)) w fun t55 w =>
 N (xv (Instr.alloc 33 true (.tuple #[]))) w fun t12 w =>
 N (xu (storeAt 33 t12 t54)) w fun _ w =>
 M t55 fun t13 =>
 k (Env.p (Env.p e 12 t12) 13 t13) w)
def c9_37_s:=cond9 c9_37 .skip 49 (.exit 3)
def c9_36_s:=drw9 c9_36 c9_37 b9_13 6 (fun N T M G H Y k e w =>
 T (FrX none w) (xv (fieldAt 53 (e 11) 0)) fun t44 =>
 T (FrX (some []) w) (xv (loadAt 9 t44)) fun t45 =>
 M (e 9) fun t46 =>
 T (FrX none w) (xv (indexAt 47 t46 (.int .i64 0))) fun t47 =>
 T (FrX (some []) w) (xv (loadAt 9 t47)) fun t48 =>
 T (FrX none w) (xv (xbin .neq 9 (.tmp 45) (.tmp 48) t45 t48)) fun t49 =>
 k (Env.p e 49 t49) w)
def c9_30_s:=seq9 c9_30 c9_31 c9_36
def c9_29_s:=reg9 c9_29 c9_30 (fun N M G k e w =>
 N (xv (indexAt 45 (e 38) (e 40))) w fun t42 w =>
 N (xv (loadAt 53 t42)) w fun t43 w =>
 N (xv (Instr.alloc 53 true (.tuple #[]))) w fun t11 w =>
 N (xu (storeAt 53 t11 t43)) w fun _ w =>
 k (Env.p e 11 t11) w)
def c9_28_s:=block9 c9_28 c9_29 3
def c9_26_s:=seq9 c9_26 c9_27 c9_28
def c9_38_s:=cond9 c9_38 (.exit 2) 41 .skip
def c9_25_s:=seq9 c9_25 c9_26 c9_38
def c9_24_s:=reg9 c9_24 c9_25 (fun N M G k e w =>
 N (xv (xbin .lss 3 (.tmp 40) (.tmp 39) (e 40) (e 39))) w fun t41 w =>
 k (Env.p e 41 t41) w)
def c9_23_s:=loop9 c9_23 c9_24
def c9_22_s:=block9 c9_22 c9_23 2
def c9_21_s:=reg9 c9_21 c9_22 (fun N M G k e w =>
 M (e 6) fun t38 =>
 N (builtin Builtin.len #[45] 3 ([false]).toArray ([t38]).toArray) w fun t39 w =>
 M (.int .i64 0) fun t40 =>
 k (Env.p (Env.p (Env.p e 38 t38) 39 t39) 40 t40) w)
def c9_19_s:=seq9 c9_19 c9_20 c9_21
def c9_40_s:=cond9 c9_40 .skip 37 (.exit 1)
def c9_39_s:=reg9 c9_39 c9_40 (fun N M G k e w =>
 M (e 9) fun t28 =>
 N (builtin Builtin.len #[47] 3 ([false]).toArray ([t28]).toArray) w fun t29 w =>
 N (xv (xbin .eql 3 (.tmp 29) (.const (.int .i64 0)) t29 (.int .i64 0))) w fun t30 w =>
 M t30 fun t31 =>
 G (isB t31 false) (fun K => M (e 9) fun v => K v w) (fun t32 w =>
 G (isB t31 false) (fun K => N (xv (indexAt 47 t32 (.int .i64 0))) w K) (fun t33 w =>
 G (isB t31 false) (fun K => N (xv (loadAt 9 t33)) w K) (fun t34 w =>
 G (isB t31 false) (fun K => N (xv (Instr.index 9 t34 (.int .i64 0))) w K) (fun t35 w =>
 G (isB t31 false) (fun K => N (xv (xbin .eql 5 (.tmp 35) (.const (.int .u8 35)) t35 (.int .u8 35))) w K) (fun t36 w =>
 N (xpick t31 (.bool true) t36) w fun t37 w =>
 k (Env.p e 37 t37) w) w) w) w) w) w)
def c9_18_s:=seq9 c9_18 c9_19 c9_39
def c9_17_s:=reg9 c9_17 c9_18 (fun N M G k e w =>
 M (e 8) fun t26 =>
 N (xcall (.func (.func 17) #[] #[]) [t26]) w fun t27 w =>
 M t27 fun t9 =>
 k (Env.p e 9 t9) w)
def c9_16_s:=reg9 c9_16 c9_17 (fun N M G k e w =>
 M (e 21) fun t23 =>
 N (xv (indexAt 47 (e 19) (e 21))) w fun t24 w =>
 N (xv (loadAt 9 t24)) w fun t25 w =>
 M t23 fun t7 =>
 M t25 fun t8 =>
 k (Env.p (Env.p e 7 t7) 8 t8) w)
def c9_15_s:=block9 c9_15 c9_16 1
def c9_13_s:=seq9 c9_13 c9_14 c9_15
def c9_41_s:=cond9 c9_41 (.exit 0) 22 .skip
def c9_12_s:=seq9 c9_12 c9_13 c9_41
def c9_11_s:=reg9 c9_11 c9_12 (fun N M G k e w =>
 N (xv (xbin .lss 3 (.tmp 21) (.tmp 20) (e 21) (e 20))) w fun t22 w =>
 k (Env.p e 22 t22) w)
def c9_10_s:=loop9 c9_10 c9_11
def c9_9_s:=block9 c9_9 c9_10 0
def c9_8_s:=reg9 c9_8 c9_9 (fun N M G k e w =>
 M (e 0) fun t18 =>
 N (xcall (.func (.func 16) #[] #[]) [t18, (.string ⟨#[10]⟩)]) w fun t19 w =>
 N (builtin Builtin.len #[47] 3 ([false]).toArray ([t19]).toArray) w fun t20 w =>
 M (.int .i64 0) fun t21 =>
 k (Env.p (Env.p (Env.p e 19 t19) 20 t20) 21 t21) w)
def c9_6_s:=seq9 c9_6 c9_7 c9_8
def c9_5_s:=seq9 c9_5 c9_6 (.label 0)
def c9_4_s:=reg9 c9_4 c9_5 (fun N M G k e w =>
 N (xcall (.func (.func 15) #[] #[]) []) w fun t17 w =>
 M t17 fun t6 =>
 k (Env.p e 6 t6) w)
def c9_3_s:=reg9 c9_3 c9_4 (fun N M G k e w =>
 M (.slice none 0 0) fun t5 =>
 k (Env.p e 5 t5) w)
def c9_44_s:=reg9 c9_44 .ret (fun N M G k e w =>
 M (.slice none 0 0) fun t2 =>
 M (.int .i64 0) fun t3 =>
 M (.int .i64 2) fun t4 =>
 k (Env.p (Env.p (Env.p e 2 t2) 3 t3) 4 t4) w)
def c9_43_s:=cond9 c9_43 .skip 16 c9_44
def c9_42_s:=reg9 c9_42 c9_43 (fun N M G k e w =>
 M (e 0) fun t14 =>
 N (builtin Builtin.len #[9] 3 ([false]).toArray ([t14]).toArray) w fun t15 w =>
 N (xv (xbin .gtr 3 (.tmp 15) (.const (.int .i64 65536)) t15 (.int .i64 65536))) w fun t16 w =>
 k (Env.p e 16 t16) w)
def c9_2_s:=seq9 c9_2 c9_3 c9_42
def c9_1_s:=scope9 c9_1 c9_2
def c9_s:=reg9 c9 c9_1 (fun N M G k e w =>
 M (.slice none 0 0) fun t2 =>
 M (.int .i64 0) fun t3 =>
 M (.int .i64 0) fun t4 =>
 k (Env.p (Env.p (Env.p e 2 t2) 3 t3) 4 t4) w)
theorem call9 {a0 : Value} {w : World} {R : Value → World → Prop} (h : W3 Tryd.prog 67 V9 c9 (retQ Tryd.prog [.tmp 2, .tmp 3, .tmp 4] R) (argE [a0]) w) : CallsN Tryd.prog 9 [a0] w R :=
 callsN_of_W3 (c := c9) (rs := [.tmp 2, .tmp 3, .tmp 4]) V9 Tryd.ntmps9 (by rw [Tryd.results9]) mixed Tryd.func9 (by kernel_rfl) (by kernel_rfl) (by kernel_rfl) (by kernel_rfl) (by simp) h
def w3t_9:=w3t Tryd.prog 67 V9
def hk9 := aI @c9_7_s <| aI @c9_14_s <| aI @c9_20_s <| aI @c9_27_s <| aI @c9_33_s <| aI @c9_35_s <| aI @c9_34_s <| aI @c9_32_s <| aI @c9_31_s <| aI @c9_37_s <| aI @c9_36_s <| aI @c9_30_s <| aI @c9_29_s <| aI @c9_28_s <| aI @c9_26_s <| aI @c9_38_s <| aI @c9_25_s <| aI @c9_24_s <| aI @c9_23_s <| aI @c9_22_s <| aI @c9_21_s <| aI @c9_19_s <| aI @c9_40_s <| aI @c9_39_s <| aI @c9_18_s <| aI @c9_17_s <| aI @c9_16_s <| aI @c9_15_s <| aI @c9_13_s <| aI @c9_41_s <| aI @c9_12_s <| aI @c9_11_s <| aI @c9_10_s <| aI @c9_9_s <| aI @c9_8_s <| aI @c9_6_s <| aI @c9_5_s <| aI @c9_4_s <| aI @c9_3_s <| aI @c9_44_s <| aI @c9_43_s <| aI @c9_42_s <| aI @c9_2_s <| aI @c9_1_s <| aI @c9_s <| @w3t_9
-- K9: ↓hk9
/-! ### vouch/script.words -/
def V17 : Nat → Bool := fun i => [0, 2].elem i
def reg17:=@s_reg Tryd.prog 5 V17
noncomputable def c17:Code:=(Tryd.f17.body.getD .skip)
noncomputable def c17_1:=cR c17
def c17_1_s:=reg17 c17_1 .ret (fun N M G k e w =>
 M (e 0) fun t3 =>
 N (xcall (.func (.func 34) #[] #[]) [t3, (.func (.func 35) #[] #[])]) w fun t4 w =>
 M t4 fun t2 =>
 k (Env.p e 2 t2) w)
def c17_s:=reg17 c17 c17_1 (fun N M G k e w =>
 M (.slice none 0 0) fun t2 =>
 k (Env.p e 2 t2) w)
theorem call17 {a0 : Value} {w : World} {R : Value → World → Prop} (h : W3 Tryd.prog 5 V17 c17 (retQ Tryd.prog [.tmp 2] R) (argE [a0]) w) : CallsN Tryd.prog 17 [a0] w R :=
 callsN_of_W3 (c := c17) (rs := [.tmp 2]) V17 Tryd.ntmps17 (by rw [Tryd.results17]) mixed Tryd.func17 (by kernel_rfl) (by kernel_rfl) (by kernel_rfl) (by kernel_rfl) (by simp) h
def w3t_17:=w3t Tryd.prog 5 V17
def hk17 := aI @c17_1_s <| aI @c17_s <| @w3t_17
-- K17: ↓hk17
/-! ### vouch/script.words$1 -/
def V35 : Nat → Bool := fun i => [0, 2].elem i
def reg35:=@s_reg Tryd.prog 5 V35
noncomputable def c35:Code:=(Tryd.f35.body.getD .skip)
noncomputable def c35_1:=cR c35
def c35_1_s:=reg35 c35_1 .ret (fun N M G k e w =>
 M (e 0) fun t3 =>
 N (xv (xbin .eql 21 (.tmp 3) (.const (.int .i32 32)) t3 (.int .i32 32))) w fun t4 w =>
 M t4 fun t2 =>
 k (Env.p e 2 t2) w)
def c35_s:=reg35 c35 c35_1 (fun N M G k e w =>
 M (.bool false) fun t2 =>
 k (Env.p e 2 t2) w)
theorem call35 {a0 : Value} {w : World} {R : Value → World → Prop} (h : W3 Tryd.prog 5 V35 c35 (retQ Tryd.prog [.tmp 2] R) (argE [a0]) w) : CallsN Tryd.prog 35 [a0] w R :=
 callsN_of_W3 (c := c35) (rs := [.tmp 2]) V35 Tryd.ntmps35 (by rw [Tryd.results35]) mixed Tryd.func35 (by kernel_rfl) (by kernel_rfl) (by kernel_rfl) (by kernel_rfl) (by simp) h
def w3t_35:=w3t Tryd.prog 5 V35
def hk35 := aI @c35_1_s <| aI @c35_s <| @w3t_35
-- K35: ↓hk35
/-! ### vouch/script.number -/
def V36 : Nat → Bool := fun i => [0, 2, 3, 4, 6, 23, 25, 26, 27, 34].elem i
def block36:=@s_block Tryd.prog 42 V36
def cond36:=@s_cond Tryd.prog 42 V36
def loop36:=@s_loop Tryd.prog 42 V36
def reg36:=@s_reg Tryd.prog 42 V36
def rend36:=@s_rend Tryd.prog 42 V36
def seq36:=@s_seq Tryd.prog 42 V36
noncomputable def c36:Code:=(Tryd.f36.body.getD .skip)
noncomputable def c36_1:=cR c36
noncomputable def c36_2:=cR c36_1
noncomputable def c36_3:=cR c36_2
noncomputable def c36_4:=cR c36_3
noncomputable def c36_5:=cL c36_3
noncomputable def c36_6:=cR c36_5
noncomputable def c36_7:=cL c36_6
noncomputable def c36_8:=cL c36_7
noncomputable def c36_9:=cR c36_8
noncomputable def c36_10:=cR c36_9
noncomputable def c36_11:=cL c36_10
noncomputable def c36_12:=cR c36_11
noncomputable def c36_13:=cR c36_12
noncomputable def c36_14:=cL c36_12
noncomputable def c36_15:=cR c36_14
noncomputable def c36_16:=cL c36_15
noncomputable def c36_17:=cL c36_9
noncomputable def c36_18:=cL c36_1
noncomputable def c36_19:=cR c36_18
noncomputable def c36_20:=cL c36_19
def c36_4_s:=reg36 c36_4 .ret (fun N M G k e w =>
 M (e 4) fun t41 =>
 M t41 fun t2 =>
 M (.bool true) fun t3 =>
 k (Env.p (Env.p e 2 t2) 3 t3) w)
def c36_13_s:=rend36 c36_13 (fun N M G k e w =>
 M (e 4) fun t35 =>
 N (xv (xbin .mul 3 (.const (.int .i64 10)) (.tmp 35) (.int .i64 10) t35)) w fun t36 w =>
 M (e 6) fun t37 =>
 N (xv (xbin .sub 21 (.tmp 37) (.const (.int .i32 48)) t37 (.int .i32 48))) w fun t38 w =>
 N (xv (convert 21 3 t38)) w fun t39 w =>
 N (xv (xbin .add 3 (.tmp 36) (.tmp 39) t36 t39)) w fun t40 w =>
 M t40 fun t4 =>
 k (Env.p e 4 t4) w)
def c36_16_s:=reg36 c36_16 .ret (fun N M G k e w =>
 M (.int .i64 0) fun t2 =>
 M (.bool false) fun t3 =>
 k (Env.p (Env.p e 2 t2) 3 t3) w)
def c36_15_s:=cond36 c36_15 .skip 34 c36_16
def c36_14_s:=reg36 c36_14 c36_15 (fun N M G k e w =>
 M (e 6) fun t29 =>
 N (xv (xbin .lss 21 (.tmp 29) (.const (.int .i32 48)) t29 (.int .i32 48))) w fun t30 w =>
 M t30 fun t31 =>
 G (isB t31 false) (fun K => M (e 6) fun v => K v w) (fun t32 w =>
 G (isB t31 false) (fun K => N (xv (xbin .gtr 21 (.tmp 32) (.const (.int .i32 57)) t32 (.int .i32 57))) w K) (fun t33 w =>
 N (xpick t31 (.bool true) t33) w fun t34 w =>
 k (Env.p e 34 t34) w) w) w)
def c36_12_s:=seq36 c36_12 c36_13 c36_14
def c36_11_s:=reg36 c36_11 c36_12 (fun N M G k e w =>
 N (xv (Instr.extract (e 26) 2)) w fun t28 w =>
 M t28 fun t6 =>
 k (Env.p e 6 t6) w)
def c36_10_s:=block36 c36_10 c36_11 1
def c36_17_s:=cond36 c36_17 (.exit 0) 27 .skip
def c36_9_s:=seq36 c36_9 c36_10 c36_17
def c36_8_s:=reg36 c36_8 c36_9 (fun N M G k e w =>
 N (xv (Instr.next (e 25) true 0)) w fun t26 w =>
 N (xv (Instr.extract t26 0)) w fun t27 w =>
 k (Env.p (Env.p e 26 t26) 27 t27) w)
def c36_7_s:=loop36 c36_7 c36_8
def c36_6_s:=block36 c36_6 c36_7 0
def c36_5_s:=reg36 c36_5 c36_6 (fun N M G k e w =>
 M (e 0) fun t24 =>
 N (xv (Instr.range 9 t24)) w fun t25 w =>
 k (Env.p e 25 t25) w)
def c36_3_s:=seq36 c36_3 c36_4 c36_5
def c36_2_s:=reg36 c36_2 c36_3 (fun N M G k e w =>
 M (.int .i64 0) fun t4 =>
 k (Env.p e 4 t4) w)
def c36_20_s:=reg36 c36_20 .ret (fun N M G k e w =>
 M (.int .i64 0) fun t2 =>
 M (.bool false) fun t3 =>
 k (Env.p (Env.p e 2 t2) 3 t3) w)
def c36_19_s:=cond36 c36_19 .skip 23 c36_20
def c36_18_s:=reg36 c36_18 c36_19 (fun N M G k e w =>
 M (e 0) fun t7 =>
 N (xv (xbin .eql 9 (.tmp 7) (.const (.string ⟨#[]⟩)) t7 (.string ⟨#[]⟩))) w fun t8 w =>
 M t8 fun t9 =>
 G (isB t9 false) (fun K => M (e 0) fun v => K v w) (fun t10 w =>
 G (isB t9 false) (fun K => N (builtin Builtin.len #[9] 3 ([false]).toArray ([t10]).toArray) w K) (fun t11 w =>
 G (isB t9 false) (fun K => N (xv (xbin .gtr 3 (.tmp 11) (.const (.int .i64 9)) t11 (.int .i64 9))) w K) (fun t12 w =>
 N (xpick t9 (.bool true) t12) w fun t13 w =>
 M t13 fun t14 =>
 G (isB t14 false) (fun K => M (e 0) fun v => K v w) (fun t15 w =>
 G (isB t14 false) (fun K => N (xv (Instr.index 9 t15 (.int .i64 0))) w K) (fun t16 w =>
 G (isB t14 false) (fun K => N (xv (xbin .eql 5 (.tmp 16) (.const (.int .u8 48)) t16 (.int .u8 48))) w K) (fun t17 w =>
 G (isB t14 false) (fun K => M t17 fun v => K v w) (fun t18 w =>
 G (isB t18 true) (fun K => M (e 0) fun v => K v w) (fun t19 w =>
 G (isB t18 true) (fun K => N (builtin Builtin.len #[9] 3 ([false]).toArray ([t19]).toArray) w K) (fun t20 w =>
 G (isB t18 true) (fun K => N (xv (xbin .gtr 3 (.tmp 20) (.const (.int .i64 1)) t20 (.int .i64 1))) w K) (fun t21 w =>
 G (isB t14 false) (fun K => N (xpick t18 t21 (.bool false)) w K) (fun t22 w =>
 N (xpick t14 (.bool true) t22) w fun t23 w =>
 k (Env.p e 23 t23) w) w) w) w) w) w) w) w) w) w) w) w)
def c36_1_s:=seq36 c36_1 c36_2 c36_18
def c36_s:=reg36 c36 c36_1 (fun N M G k e w =>
 M (.int .i64 0) fun t2 =>
 M (.bool false) fun t3 =>
 k (Env.p (Env.p e 2 t2) 3 t3) w)
theorem call36 {a0 : Value} {w : World} {R : Value → World → Prop} (h : W3 Tryd.prog 42 V36 c36 (retQ Tryd.prog [.tmp 2, .tmp 3] R) (argE [a0]) w) : CallsN Tryd.prog 36 [a0] w R :=
 callsN_of_W3 (c := c36) (rs := [.tmp 2, .tmp 3]) V36 Tryd.ntmps36 (by rw [Tryd.results36]) mixed Tryd.func36 (by kernel_rfl) (by kernel_rfl) (by kernel_rfl) (by kernel_rfl) (by simp) h
def w3t_36:=w3t Tryd.prog 42 V36
def hk36 := aI @c36_4_s <| aI @c36_13_s <| aI @c36_16_s <| aI @c36_15_s <| aI @c36_14_s <| aI @c36_12_s <| aI @c36_11_s <| aI @c36_10_s <| aI @c36_17_s <| aI @c36_9_s <| aI @c36_8_s <| aI @c36_7_s <| aI @c36_6_s <| aI @c36_5_s <| aI @c36_3_s <| aI @c36_2_s <| aI @c36_20_s <| aI @c36_19_s <| aI @c36_18_s <| aI @c36_1_s <| aI @c36_s <| @w3t_36
-- K36: ↓hk36
/-! ### vouch/script.write -/
def V37 : Nat → Bool := fun i => [0, 2, 3, 4, 5, 6, 7, 8, 16].elem i
def cond37:=@s_cond Tryd.prog 35 V37
def reg37:=@s_reg Tryd.prog 35 V37
def seq37:=@s_seq Tryd.prog 35 V37
noncomputable def c37:Code:=(Tryd.f37.body.getD .skip)
noncomputable def c37_1:=cR c37
noncomputable def c37_2:=cR c37_1
noncomputable def c37_3:=cR c37_2
noncomputable def c37_4:=cL c37_2
noncomputable def c37_5:=cR c37_4
noncomputable def c37_6:=cL c37_5
noncomputable def c37_7:=cR c37_6
def c37_3_s:=reg37 c37_3 .ret (fun N M G k e w =>
 M (e 4) fun t29 =>
 M (e 5) fun t30 =>
 N (xv (Instr.build 58 ([(0, (.bool true)), (1, t30)]).toArray)) w fun t31 w =>
 N (xv (Instr.build 60 ([(0, t29), (1, t31)]).toArray)) w fun t32 w =>
 M (e 4) fun t33 =>
 N (xv (xbin .neq 9 (.tmp 33) (.const (.string ⟨#[]⟩)) t33 (.string ⟨#[]⟩))) w fun t34 w =>
 N (xu (storeAt 60 (e 2) t32)) w fun _ w =>
 M t34 fun t3 =>
 k (Env.p e 3 t3) w)
def c37_7_s:=reg37 c37_7 .ret (fun N M G k e w =>
 M (e 7) fun t22 =>
 N (xv (Instr.build 60 ([(0, t22)]).toArray)) w fun t23 w =>
 M (e 8) fun t24 =>
 M t24 fun t25 =>
 G (isB t25 true) (fun K => M (e 7) fun v => K v w) (fun t26 w =>
 G (isB t25 true) (fun K => N (xv (xbin .neq 9 (.tmp 26) (.const (.string ⟨#[]⟩)) t26 (.string ⟨#[]⟩))) w K) (fun t27 w =>
 N (xpick t25 t27 (.bool false)) w fun t28 w =>
 N (xu (storeAt 60 (e 2) t23)) w fun _ w =>
 M t28 fun t3 =>
 k (Env.p e 3 t3) w) w) w)
def c37_6_s:=reg37 c37_6 c37_7 (fun N M G k e w =>
 M (e 0) fun t18 =>
 N (xcall (.func (.func 52) #[] #[]) [t18, (.string ⟨#[33]⟩)]) w fun t19 w =>
 M t19 fun t17 =>
 N (xv (Instr.extract t17 0)) w fun t20 w =>
 N (xv (Instr.extract t17 1)) w fun t21 w =>
 M t20 fun t7 =>
 M t21 fun t8 =>
 k (Env.p (Env.p e 7 t7) 8 t8) w)
def c37_5_s:=cond37 c37_5 .skip 16 c37_6
def c37_4_s:=reg37 c37_4 c37_5 (fun N M G k e w =>
 M (e 6) fun t15 =>
 N (xv (Op.unary .not t15)) w fun t16 w =>
 k (Env.p e 16 t16) w)
def c37_2_s:=seq37 c37_2 c37_3 c37_4
def c37_1_s:=reg37 c37_1 c37_2 (fun N M G k e w =>
 M (e 0) fun t10 =>
 N (xcall (.func (.func 51) #[] #[]) [t10, (.string ⟨#[61]⟩)]) w fun t11 w =>
 M t11 fun t9 =>
 N (xv (Instr.extract t9 0)) w fun t12 w =>
 N (xv (Instr.extract t9 1)) w fun t13 w =>
 N (xv (Instr.extract t9 2)) w fun t14 w =>
 M t12 fun t4 =>
 M t13 fun t5 =>
 M t14 fun t6 =>
 k (Env.p (Env.p (Env.p e 4 t4) 5 t5) 6 t6) w)
def c37_s:=reg37 c37 c37_1 (fun N M G k e w =>
 N (xv (Instr.alloc 60 true (.tuple #[]))) w fun t2 w =>
 M (.bool false) fun t3 =>
 k (Env.p (Env.p e 2 t2) 3 t3) w)
theorem call37 {a0 : Value} {w : World} {R : Value → World → Prop} (h : W3 Tryd.prog 35 V37 c37 (retQ Tryd.prog [.cell 2 60, .tmp 3] R) (argE [a0]) w) : CallsN Tryd.prog 37 [a0] w R :=
 callsN_of_W3 (c := c37) (rs := [.cell 2 60, .tmp 3]) V37 Tryd.ntmps37 (by rw [Tryd.results37]) mixed Tryd.func37 (by kernel_rfl) (by kernel_rfl) (by kernel_rfl) (by kernel_rfl) (by simp) h
def w3t_37:=w3t Tryd.prog 35 V37
def hk37 := aI @c37_3_s <| aI @c37_7_s <| aI @c37_6_s <| aI @c37_5_s <| aI @c37_4_s <| aI @c37_2_s <| aI @c37_1_s <| aI @c37_s <| @w3t_37
-- K37: ↓hk37
/-! ### vouch/script.forms -/
def V15 : Nat → Bool := fun i => [0, 1, 2, 3, 4, 5, 6].elem i
def reg15:=@s_reg Tryd.prog 41 V15
noncomputable def c15:Code:=(Tryd.f15.body.getD .skip)
noncomputable def c15_1:=cR c15
noncomputable def c15_2:=cR c15_1
noncomputable def c15_3:=cR c15_2
noncomputable def c15_4:=cR c15_3
noncomputable def c15_5:=cR c15_4
noncomputable def c15_6:=cR c15_5
noncomputable def c15_7:=cR c15_6
def c15_7_s:=reg15 c15_7 .ret (fun N M G k e w =>
 N (xv (Instr.build 53 ([(0, (.string ⟨#[111, 112, 101, 110]⟩)), (1, (.int .i64 1))]).toArray)) w fun t7 w =>
 M (e 1) fun t8 =>
 N (xv (Instr.build 53 ([(0, (.string ⟨#[99, 111, 109, 109, 105, 116]⟩)), (1, (.int .i64 2)), (2, t8), (3, Value.nilFunc)]).toArray)) w fun t9 w =>
 M (e 1) fun t10 =>
 N (xv (Instr.build 53 ([(0, (.string ⟨#[97, 103, 97, 105, 110]⟩)), (1, (.int .i64 3)), (2, t10), (3, Value.nilFunc)]).toArray)) w fun t11 w =>
 M (e 1) fun t12 =>
 N (xv (Instr.build 53 ([(0, (.string ⟨#[98, 101, 103, 105, 110]⟩)), (1, (.int .i64 4)), (2, t12), (3, Value.nilFunc)]).toArray)) w fun t13 w =>
 M (e 2) fun t14 =>
 M (e 5) fun t15 =>
 N (xv (Instr.build 53 ([(0, (.string ⟨#[114, 101, 97, 100]⟩)), (1, (.int .i64 5)), (2, t14), (3, t15)]).toArray)) w fun t16 w =>
 M (e 2) fun t17 =>
 N (xv (Instr.build 53 ([(0, (.string ⟨#[114, 101, 116, 114, 121]⟩)), (1, (.int .i64 6)), (2, t17), (3, Value.nilFunc)]).toArray)) w fun t18 w =>
 M (e 2) fun t19 =>
 N (xv (Instr.build 53 ([(0, (.string ⟨#[102, 105, 110, 105, 115, 104]⟩)), (1, (.int .i64 7)), (2, t19), (3, Value.nilFunc)]).toArray)) w fun t20 w =>
 M (e 3) fun t21 =>
 N (xv (Instr.build 53 ([(0, (.string ⟨#[100, 101, 108, 105, 118, 101, 114]⟩)), (1, (.int .i64 8)), (2, t21), (3, Value.nilFunc)]).toArray)) w fun t22 w =>
 M (e 3) fun t23 =>
 N (xv (Instr.build 53 ([(0, (.string ⟨#[100, 114, 111, 112]⟩)), (1, (.int .i64 9)), (2, t23), (3, Value.nilFunc)]).toArray)) w fun t24 w =>
 M (e 3) fun t25 =>
 N (xv (Instr.build 53 ([(0, (.string ⟨#[100, 111, 117, 98, 108, 101]⟩)), (1, (.int .i64 10)), (2, t25), (3, Value.nilFunc)]).toArray)) w fun t26 w =>
 M (e 4) fun t27 =>
 N (xv (Instr.build 53 ([(0, (.string ⟨#[99, 114, 97, 115, 104]⟩)), (1, (.int .i64 11)), (2, t27), (3, Value.nilFunc)]).toArray)) w fun t28 w =>
 M (e 4) fun t29 =>
 N (xv (Instr.build 53 ([(0, (.string ⟨#[114, 101, 115, 116, 97, 114, 116]⟩)), (1, (.int .i64 12)), (2, t29), (3, Value.nilFunc)]).toArray)) w fun t30 w =>
 M (e 4) fun t31 =>
 N (xv (Instr.build 53 ([(0, (.string ⟨#[110, 117, 100, 103, 101]⟩)), (1, (.int .i64 13)), (2, t31), (3, Value.nilFunc)]).toArray)) w fun t32 w =>
 M (e 4) fun t33 =>
 N (xv (Instr.build 53 ([(0, (.string ⟨#[115, 113, 117, 101, 101, 122, 101]⟩)), (1, (.int .i64 14)), (2, t33), (3, Value.nilFunc)]).toArray)) w fun t34 w =>
 M (e 1) fun t35 =>
 N (xv (Instr.build 53 ([(0, (.string ⟨#[116, 111, 107, 101, 110]⟩)), (1, (.int .i64 15)), (2, t35), (3, Value.nilFunc)]).toArray)) w fun t36 w =>
 M (e 1) fun t37 =>
 M (e 6) fun t38 =>
 N (xv (Instr.build 53 ([(0, (.string ⟨#[106, 111, 105, 110]⟩)), (1, (.int .i64 16)), (2, t37), (3, t38)]).toArray)) w fun t39 w =>
 N (xv (Instr.buildSlice 45 16 ([(0, t7), (1, t9), (2, t11), (3, t13), (4, t16), (5, t18), (6, t20), (7, t22), (8, t24), (9, t26), (10, t28), (11, t30), (12, t32), (13, t34), (14, t36), (15, t39)]).toArray)) w fun t40 w =>
 M t40 fun t0 =>
 k (Env.p e 0 t0) w)
def c15_6_s:=reg15 c15_6 c15_7 (fun N M G k e w =>
 M (.func (.func 32) #[] #[]) fun t6 =>
 k (Env.p e 6 t6) w)
def c15_5_s:=reg15 c15_5 c15_6 (fun N M G k e w =>
 M (.func (.func 31) #[] #[]) fun t5 =>
 k (Env.p e 5 t5) w)
def c15_4_s:=reg15 c15_4 c15_5 (fun N M G k e w =>
 M (.func (.func 30) #[] #[]) fun t4 =>
 k (Env.p e 4 t4) w)
def c15_3_s:=reg15 c15_3 c15_4 (fun N M G k e w =>
 M (.func (.func 29) #[] #[]) fun t3 =>
 k (Env.p e 3 t3) w)
def c15_2_s:=reg15 c15_2 c15_3 (fun N M G k e w =>
 M (.func (.func 28) #[] #[]) fun t2 =>
 k (Env.p e 2 t2) w)
def c15_1_s:=reg15 c15_1 c15_2 (fun N M G k e w =>
 M (.func (.func 27) #[] #[]) fun t1 =>
 k (Env.p e 1 t1) w)
def c15_s:=reg15 c15 c15_1 (fun N M G k e w =>
 M (.slice none 0 0) fun t0 =>
 k (Env.p e 0 t0) w)
theorem call15 {w : World} {R : Value → World → Prop} (h : W3 Tryd.prog 41 V15 c15 (retQ Tryd.prog [.tmp 0] R) (argE []) w) : CallsN Tryd.prog 15 [] w R :=
 callsN_of_W3 (c := c15) (rs := [.tmp 0]) V15 Tryd.ntmps15 (by rw [Tryd.results15]) mixed Tryd.func15 (by kernel_rfl) (by kernel_rfl) (by kernel_rfl) (by kernel_rfl) (by simp) h
def w3t_15:=w3t Tryd.prog 41 V15
def hk15 := aI @c15_7_s <| aI @c15_6_s <| aI @c15_5_s <| aI @c15_4_s <| aI @c15_3_s <| aI @c15_2_s <| aI @c15_1_s <| aI @c15_s <| @w3t_15
-- K15: ↓hk15
/-! ### vouch/script.forms$1 -/
def V27 : Nat → Bool := fun i => [0, 2].elem i
def reg27:=@s_reg Tryd.prog 6 V27
noncomputable def c27:Code:=(Tryd.f27.body.getD .skip)
noncomputable def c27_1:=cR c27
def c27_1_s:=reg27 c27_1 .ret (fun N M G k e w =>
 M (e 0) fun t3 =>
 N (xnil t3) w fun t4 w =>
 N (xv (fieldAt 33 t4 1)) w fun t5 w =>
 M t5 fun t2 =>
 k (Env.p e 2 t2) w)
def c27_s:=reg27 c27 c27_1 (fun N M G k e w =>
 M (.pointer none) fun t2 =>
 k (Env.p e 2 t2) w)
theorem call27 {a0 : Value} {w : World} {R : Value → World → Prop} (h : W3 Tryd.prog 6 V27 c27 (retQ Tryd.prog [.tmp 2] R) (argE [a0]) w) : CallsN Tryd.prog 27 [a0] w R :=
 callsN_of_W3 (c := c27) (rs := [.tmp 2]) V27 Tryd.ntmps27 (by rw [Tryd.results27]) mixed Tryd.func27 (by kernel_rfl) (by kernel_rfl) (by kernel_rfl) (by kernel_rfl) (by simp) h
def w3t_27:=w3t Tryd.prog 6 V27
def hk27 := aI @c27_1_s <| aI @c27_s <| @w3t_27
-- K27: ↓hk27
/-! ### vouch/script.forms$2 -/
def V28 : Nat → Bool := fun i => [0, 2].elem i
def reg28:=@s_reg Tryd.prog 6 V28
noncomputable def c28:Code:=(Tryd.f28.body.getD .skip)
noncomputable def c28_1:=cR c28
def c28_1_s:=reg28 c28_1 .ret (fun N M G k e w =>
 M (e 0) fun t3 =>
 N (xnil t3) w fun t4 w =>
 N (xv (fieldAt 33 t4 2)) w fun t5 w =>
 M t5 fun t2 =>
 k (Env.p e 2 t2) w)
def c28_s:=reg28 c28 c28_1 (fun N M G k e w =>
 M (.pointer none) fun t2 =>
 k (Env.p e 2 t2) w)
theorem call28 {a0 : Value} {w : World} {R : Value → World → Prop} (h : W3 Tryd.prog 6 V28 c28 (retQ Tryd.prog [.tmp 2] R) (argE [a0]) w) : CallsN Tryd.prog 28 [a0] w R :=
 callsN_of_W3 (c := c28) (rs := [.tmp 2]) V28 Tryd.ntmps28 (by rw [Tryd.results28]) mixed Tryd.func28 (by kernel_rfl) (by kernel_rfl) (by kernel_rfl) (by kernel_rfl) (by simp) h
def w3t_28:=w3t Tryd.prog 6 V28
def hk28 := aI @c28_1_s <| aI @c28_s <| @w3t_28
-- K28: ↓hk28
/-! ### vouch/script.forms$3 -/
def V29 : Nat → Bool := fun i => [0, 2].elem i
def reg29:=@s_reg Tryd.prog 6 V29
noncomputable def c29:Code:=(Tryd.f29.body.getD .skip)
noncomputable def c29_1:=cR c29
def c29_1_s:=reg29 c29_1 .ret (fun N M G k e w =>
 M (e 0) fun t3 =>
 N (xnil t3) w fun t4 w =>
 N (xv (fieldAt 33 t4 4)) w fun t5 w =>
 M t5 fun t2 =>
 k (Env.p e 2 t2) w)
def c29_s:=reg29 c29 c29_1 (fun N M G k e w =>
 M (.pointer none) fun t2 =>
 k (Env.p e 2 t2) w)
theorem call29 {a0 : Value} {w : World} {R : Value → World → Prop} (h : W3 Tryd.prog 6 V29 c29 (retQ Tryd.prog [.tmp 2] R) (argE [a0]) w) : CallsN Tryd.prog 29 [a0] w R :=
 callsN_of_W3 (c := c29) (rs := [.tmp 2]) V29 Tryd.ntmps29 (by rw [Tryd.results29]) mixed Tryd.func29 (by kernel_rfl) (by kernel_rfl) (by kernel_rfl) (by kernel_rfl) (by simp) h
def w3t_29:=w3t Tryd.prog 6 V29
def hk29 := aI @c29_1_s <| aI @c29_s <| @w3t_29
-- K29: ↓hk29
/-! ### vouch/script.forms$4 -/
def V30 : Nat → Bool := fun i => [0, 2].elem i
def reg30:=@s_reg Tryd.prog 6 V30
noncomputable def c30:Code:=(Tryd.f30.body.getD .skip)
noncomputable def c30_1:=cR c30
def c30_1_s:=reg30 c30_1 .ret (fun N M G k e w =>
 M (e 0) fun t3 =>
 N (xnil t3) w fun t4 w =>
 N (xv (fieldAt 33 t4 3)) w fun t5 w =>
 M t5 fun t2 =>
 k (Env.p e 2 t2) w)
def c30_s:=reg30 c30 c30_1 (fun N M G k e w =>
 M (.pointer none) fun t2 =>
 k (Env.p e 2 t2) w)
theorem call30 {a0 : Value} {w : World} {R : Value → World → Prop} (h : W3 Tryd.prog 6 V30 c30 (retQ Tryd.prog [.tmp 2] R) (argE [a0]) w) : CallsN Tryd.prog 30 [a0] w R :=
 callsN_of_W3 (c := c30) (rs := [.tmp 2]) V30 Tryd.ntmps30 (by rw [Tryd.results30]) mixed Tryd.func30 (by kernel_rfl) (by kernel_rfl) (by kernel_rfl) (by kernel_rfl) (by simp) h
def w3t_30:=w3t Tryd.prog 6 V30
def hk30 := aI @c30_1_s <| aI @c30_s <| @w3t_30
-- K30: ↓hk30
/-! ### vouch/script.forms$5 -/
def V31 : Nat → Bool := fun i => [0, 2].elem i
def reg31:=@s_reg Tryd.prog 6 V31
noncomputable def c31:Code:=(Tryd.f31.body.getD .skip)
noncomputable def c31_1:=cR c31
def c31_1_s:=reg31 c31_1 .ret (fun N M G k e w =>
 M (e 0) fun t3 =>
 N (xnil t3) w fun t4 w =>
 N (xv (fieldAt 33 t4 5)) w fun t5 w =>
 M t5 fun t2 =>
 k (Env.p e 2 t2) w)
def c31_s:=reg31 c31 c31_1 (fun N M G k e w =>
 M (.pointer none) fun t2 =>
 k (Env.p e 2 t2) w)
theorem call31 {a0 : Value} {w : World} {R : Value → World → Prop} (h : W3 Tryd.prog 6 V31 c31 (retQ Tryd.prog [.tmp 2] R) (argE [a0]) w) : CallsN Tryd.prog 31 [a0] w R :=
 callsN_of_W3 (c := c31) (rs := [.tmp 2]) V31 Tryd.ntmps31 (by rw [Tryd.results31]) mixed Tryd.func31 (by kernel_rfl) (by kernel_rfl) (by kernel_rfl) (by kernel_rfl) (by simp) h
def w3t_31:=w3t Tryd.prog 6 V31
def hk31 := aI @c31_1_s <| aI @c31_s <| @w3t_31
-- K31: ↓hk31
/-! ### vouch/script.forms$6 -/
def V32 : Nat → Bool := fun i => [0, 2].elem i
def reg32:=@s_reg Tryd.prog 6 V32
noncomputable def c32:Code:=(Tryd.f32.body.getD .skip)
noncomputable def c32_1:=cR c32
def c32_1_s:=reg32 c32_1 .ret (fun N M G k e w =>
 M (e 0) fun t3 =>
 N (xnil t3) w fun t4 w =>
 N (xv (fieldAt 33 t4 7)) w fun t5 w =>
 M t5 fun t2 =>
 k (Env.p e 2 t2) w)
def c32_s:=reg32 c32 c32_1 (fun N M G k e w =>
 M (.pointer none) fun t2 =>
 k (Env.p e 2 t2) w)
theorem call32 {a0 : Value} {w : World} {R : Value → World → Prop} (h : W3 Tryd.prog 6 V32 c32 (retQ Tryd.prog [.tmp 2] R) (argE [a0]) w) : CallsN Tryd.prog 32 [a0] w R :=
 callsN_of_W3 (c := c32) (rs := [.tmp 2]) V32 Tryd.ntmps32 (by rw [Tryd.results32]) mixed Tryd.func32 (by kernel_rfl) (by kernel_rfl) (by kernel_rfl) (by kernel_rfl) (by simp) h
def w3t_32:=w3t Tryd.prog 6 V32
def hk32 := aI @c32_1_s <| aI @c32_s <| @w3t_32
-- K32: ↓hk32
/-! ### (vouch/script.form) . step -/
def V18 : Nat → Bool := fun i => [0, 1, 2, 4, 5, 6, 7, 8, 10, 11, 12, 20, 23, 33, 44, 47, 59, 64, 65, 66, 67, 76].elem i
def block18:=@s_block Tryd.prog 86 V18
def cond18:=@s_cond Tryd.prog 86 V18
def drw18:=@s_drw Tryd.prog 86 V18
def loop18:=@s_loop Tryd.prog 86 V18
def reg18:=@s_reg Tryd.prog 86 V18
def rend18:=@s_rend Tryd.prog 86 V18
def seq18:=@s_seq Tryd.prog 86 V18
noncomputable def c18:Code:=(Tryd.f18.body.getD .skip)
noncomputable def c18_1:=cR c18
noncomputable def c18_2:=cR c18_1
noncomputable def c18_3:=cR c18_2
noncomputable def c18_4:=cR c18_3
noncomputable def c18_5:=cR c18_4
noncomputable def c18_6:=cR c18_5
noncomputable def c18_7:=cR c18_6
noncomputable def c18_8:=cL c18_6
noncomputable def c18_9:=cR c18_8
noncomputable def c18_10:=cL c18_9
noncomputable def c18_11:=cL c18_10
noncomputable def c18_12:=cR c18_11
noncomputable def c18_13:=cR c18_12
noncomputable def c18_14:=cR c18_13
noncomputable def c18_15:=cL c18_13
noncomputable def c18_16:=cL c18_15
noncomputable def c18_17:=cR c18_16
noncomputable def c18_18:=cR c18_17
noncomputable def c18_19:=cR c18_18
noncomputable def c18_20:=cL c18_18
noncomputable def c18_21:=cR c18_20
noncomputable def c18_22:=cL c18_21
noncomputable def c18_23:=cL c18_12
noncomputable def c18_24:=cL c18_5
noncomputable def c18_25:=cR c18_24
noncomputable def c18_26:=cL c18_25
noncomputable def c18_27:=cL c18_4
noncomputable def c18_28:=cR c18_27
noncomputable def c18_29:=cL c18_28
noncomputable def c18_30:=cR c18_29
noncomputable def b18_14:List Row:=[(0, 0, 4, 50, true), (1, 1, 562949953421312, 51, true), (2, 3, 1125899906842688, 52, false), (0, 0, 2, 53, true), (8, 8, 4503599627370496, 54, true), (16, 24, 9007199254740992, 55, true), (63, 63, 2251799813685248, 56, true), (127, 127, 54043195528445952, 0, false)]
noncomputable def c18_31:=cR c18_30
noncomputable def c18_32:=cL c18_29
noncomputable def c18_33:=cR c18_32
noncomputable def c18_34:=cL c18_33
noncomputable def c18_35:=cL c18_3
noncomputable def c18_36:=cR c18_35
noncomputable def c18_37:=cL c18_36
noncomputable def c18_38:=cR c18_37
noncomputable def c18_39:=cR c18_38
noncomputable def c18_40:=cR c18_39
noncomputable def c18_41:=cR c18_40
noncomputable def c18_42:=cL c18_39
noncomputable def c18_43:=cR c18_42
noncomputable def c18_44:=cL c18_43
noncomputable def c18_45:=cL c18_37
noncomputable def c18_46:=cR c18_45
noncomputable def c18_47:=cL c18_46
def c18_7_s:=reg18 c18_7 .ret (fun N M G k e w =>
 N (xv (loadAt 33 (e 6))) w fun t85 w =>
 N (xu (storeAt 33 (e 4) t85)) w fun _ w =>
 M (.bool true) fun t5 =>
 k (Env.p e 5 t5) w)
def c18_14_s:=rend18 c18_14 (fun N M G k e w =>
 N (xv (xbin .add 3 (.tmp 66) (.const (.int .i64 1)) (e 66) (.int .i64 1))) w fun t84 w =>
 M t84 fun t66 =>
 k (Env.p e 66 t66) w)
def c18_19_s:=rend18 c18_19 (fun N M G k e w =>
 N (xv (fieldAt 33 (e 6) 6)) w fun t78 w =>
 N (xv (loadAt 31 t78)) w fun t79 w =>
 N (xv (loadAt 60 (e 11))) w fun t80 w =>
 N (xv (Instr.buildSlice 31 1 ([(0, t80)]).toArray)) w fun t81 w =>
 N (builtin Builtin.append #[31, 31] 31 ([false, false]).toArray ([t79, t81]).toArray) w fun t82 w =>
 N (xv (fieldAt 33 (e 6) 6)) w fun t83 w =>
 N (xu (storeAt 31 t83 t82)) w fun _ w =>
 k e w)
def c18_22_s:=reg18 c18_22 .ret (fun N M G k e w =>
 N (xv (loadAt 33 (e 6))) w fun t77 w =>
 N (xu (storeAt 33 (e 4) t77)) w fun _ w =>
 M (.bool false) fun t5 =>
 k (Env.p e 5 t5) w)
def c18_21_s:=cond18 c18_21 .skip 76 c18_22
def c18_20_s:=reg18 c18_20 c18_21 (fun N M G k e w =>
 M (e 12) fun t75 =>
 N (xv (Op.unary .not t75)) w fun t76 w =>
 k (Env.p e 76 t76) w)
def c18_18_s:=seq18 c18_18 c18_19 c18_20
def c18_17_s:=reg18 c18_17 c18_18 (fun N M G k e w =>
 M (e 10) fun t71 =>
 N (xcall (.func (.func 37) #[] #[]) [t71]) w fun t72 w =>
 M t72 fun t70 =>
 N (xv (Instr.extract t70 0)) w fun t73 w =>
 N (xv (Instr.extract t70 1)) w fun t74 w =>
 N (xv (Instr.alloc 60 true (.tuple #[]))) w fun t11 w =>
 N (xu (storeAt 60 t11 t73)) w fun _ w =>
 M t74 fun t12 =>
 k (Env.p (Env.p e 11 t11) 12 t12) w)
def c18_16_s:=reg18 c18_16 c18_17 (fun N M G k e w =>
 N (xv (indexAt 47 (e 64) (e 66))) w fun t68 w =>
 N (xv (loadAt 9 t68)) w fun t69 w =>
 M t69 fun t10 =>
 k (Env.p e 10 t10) w)
def c18_15_s:=block18 c18_15 c18_16 1
def c18_13_s:=seq18 c18_13 c18_14 c18_15
def c18_23_s:=cond18 c18_23 (.exit 0) 67 .skip
def c18_12_s:=seq18 c18_12 c18_13 c18_23
def c18_11_s:=reg18 c18_11 c18_12 (fun N M G k e w =>
 N (xv (xbin .lss 3 (.tmp 66) (.tmp 65) (e 66) (e 65))) w fun t67 w =>
 k (Env.p e 67 t67) w)
def c18_10_s:=loop18 c18_10 c18_11
def c18_9_s:=block18 c18_9 c18_10 0
def c18_8_s:=reg18 c18_8 c18_9 (fun N M G k e w =>
 M (e 1) fun t64 =>
 N (builtin Builtin.len #[47] 3 ([false]).toArray ([t64]).toArray) w fun t65 w =>
 M (.int .i64 0) fun t66 =>
 k (Env.p (Env.p (Env.p e 64 t64) 65 t65) 66 t66) w)
def c18_6_s:=seq18 c18_6 c18_7 c18_8
def c18_26_s:=reg18 c18_26 .ret (fun N M G k e w =>
 N (xv (loadAt 33 (e 6))) w fun t60 w =>
 M (e 1) fun t61 =>
 N (builtin Builtin.len #[47] 3 ([false]).toArray ([t61]).toArray) w fun t62 w =>
 N (xv (xbin .eql 3 (.tmp 62) (.const (.int .i64 0)) t62 (.int .i64 0))) w fun t63 w =>
 N (xu (storeAt 33 (e 4) t60)) w fun _ w =>
 M t63 fun t5 =>
 k (Env.p e 5 t5) w)
def c18_25_s:=cond18 c18_25 .skip 59 c18_26
def c18_24_s:=reg18 c18_24 c18_25 (fun N M G k e w =>
 N (xv (fieldAt 53 (e 2) 1)) w fun t57 w =>
 N (xv (loadAt 3 t57)) w fun t58 w =>
 N (xv (xbin .neq 3 (.tmp 58) (.const (.int .i64 2)) t58 (.int .i64 2))) w fun t59 w =>
 k (Env.p e 59 t59) w)
def c18_5_s:=seq18 c18_5 c18_6 c18_24
def c18_31_s:=reg18 c18_31 .ret (fun N M G k e w =>
 N (xv (loadAt 33 (e 6))) w fun t56 w =>
 N (xu (storeAt 33 (e 4) t56)) w fun _ w =>
 M (.bool true) fun t5 =>
 k (Env.p e 5 t5) w)
def c18_30_s:=drw18 c18_30 c18_31 b18_14 8 (fun N T M G H Y k e w =>
 T (FrX none w) (xv (fieldAt 53 (e 2) 3)) fun t49 =>
 T (FrX (some []) w) (xv (loadAt 51 t49)) fun t50 =>
 M (e 1) fun t52 =>
 T (FrX none w) (xv (indexAt 47 t52 (.int .i64 0))) fun t53 =>
 T (FrX (some []) w) (xv (loadAt 9 t53)) fun t54 =>
 N (xcall t50 [(e 6)]) w fun t51 w2 =>
 Y true (xv (loadAt 9 t53)) t54 w w2 ∧ (T (FrX none w2) (xnil t51) fun t55 =>
 N (xu (storeAt 9 t55 t54)) w2 fun _ w7 =>
 k e w7))
def c18_34_s:=reg18 c18_34 .ret (fun N M G k e w =>
 N (xv (loadAt 33 (e 6))) w fun t48 w =>
 N (xu (storeAt 33 (e 4) t48)) w fun _ w =>
 M (.bool false) fun t5 =>
 k (Env.p e 5 t5) w)
def c18_33_s:=cond18 c18_33 .skip 47 c18_34
def c18_32_s:=reg18 c18_32 c18_33 (fun N M G k e w =>
 M (e 1) fun t45 =>
 N (builtin Builtin.len #[47] 3 ([false]).toArray ([t45]).toArray) w fun t46 w =>
 N (xv (xbin .neq 3 (.tmp 46) (.const (.int .i64 1)) t46 (.int .i64 1))) w fun t47 w =>
 k (Env.p e 47 t47) w)
def c18_29_s:=seq18 c18_29 c18_30 c18_32
def c18_28_s:=cond18 c18_28 .skip 44 c18_29
def c18_27_s:=reg18 c18_27 c18_28 (fun N M G k e w =>
 N (xv (fieldAt 53 (e 2) 3)) w fun t42 w =>
 N (xv (loadAt 51 t42)) w fun t43 w =>
 N (xv (xbin .neq 51 (.tmp 43) (.const Value.nilFunc) t43 Value.nilFunc)) w fun t44 w =>
 k (Env.p e 44 t44) w)
def c18_4_s:=seq18 c18_4 c18_5 c18_27
def c18_41_s:=rend18 c18_41 (fun N M G k e w =>
 M (e 1) fun t40 =>
 N (xv (Instr.sliceAt 47 t40 (some (.int .i64 1)) none none)) w fun t41 w =>
 M t41 fun t1 =>
 k (Env.p e 1 t1) w)
def c18_40_s:=reg18 c18_40 c18_41 (fun N M G k e w =>
 N (xv (fieldAt 53 (e 2) 2)) w fun t35 w =>
 N (xv (loadAt 50 t35)) w fun t36 w =>
 N (xcall t36 [(e 6)]) w fun t37 w =>
 M (e 7) fun t38 =>
 N (xnil t37) w fun t39 w =>
 N (xu (storeAt 3 t39 t38)) w fun _ w =>
 k e w)
def c18_44_s:=reg18 c18_44 .ret (fun N M G k e w =>
 N (xv (loadAt 33 (e 6))) w fun t34 w =>
 N (xu (storeAt 33 (e 4) t34)) w fun _ w =>
 M (.bool false) fun t5 =>
 k (Env.p e 5 t5) w)
def c18_43_s:=cond18 c18_43 .skip 33 c18_44
def c18_42_s:=reg18 c18_42 c18_43 (fun N M G k e w =>
 M (e 8) fun t32 =>
 N (xv (Op.unary .not t32)) w fun t33 w =>
 k (Env.p e 33 t33) w)
def c18_39_s:=seq18 c18_39 c18_40 c18_42
def c18_38_s:=reg18 c18_38 c18_39 (fun N M G k e w =>
 M (e 1) fun t26 =>
 N (xv (indexAt 47 t26 (.int .i64 0))) w fun t27 w =>
 N (xv (loadAt 9 t27)) w fun t28 w =>
 N (xcall (.func (.func 36) #[] #[]) [t28]) w fun t29 w =>
 M t29 fun t25 =>
 N (xv (Instr.extract t25 0)) w fun t30 w =>
 N (xv (Instr.extract t25 1)) w fun t31 w =>
 M t30 fun t7 =>
 M t31 fun t8 =>
 k (Env.p (Env.p e 7 t7) 8 t8) w)
def c18_47_s:=reg18 c18_47 .ret (fun N M G k e w =>
 N (xv (loadAt 33 (e 6))) w fun t24 w =>
 N (xu (storeAt 33 (e 4) t24)) w fun _ w =>
 M (.bool false) fun t5 =>
 k (Env.p e 5 t5) w)
def c18_46_s:=cond18 c18_46 .skip 23 c18_47
def c18_45_s:=reg18 c18_45 c18_46 (fun N M G k e w =>
 M (e 1) fun t21 =>
 N (builtin Builtin.len #[47] 3 ([false]).toArray ([t21]).toArray) w fun t22 w =>
 N (xv (xbin .eql 3 (.tmp 22) (.const (.int .i64 0)) t22 (.int .i64 0))) w fun t23 w =>
 k (Env.p e 23 t23) w)
def c18_37_s:=seq18 c18_37 c18_38 c18_45
def c18_36_s:=cond18 c18_36 .skip 20 c18_37
def c18_35_s:=reg18 c18_35 c18_36 (fun N M G k e w =>
 N (xv (fieldAt 53 (e 2) 2)) w fun t18 w =>
 N (xv (loadAt 50 t18)) w fun t19 w =>
 N (xv (xbin .neq 50 (.tmp 19) (.const Value.nilFunc) t19 Value.nilFunc)) w fun t20 w =>
 k (Env.p e 20 t20) w)
def c18_3_s:=seq18 c18_3 c18_4 c18_35
def c18_2_s:=reg18 c18_2 c18_3 (fun N M G k e w =>
 M (e 1) fun t16 =>
 N (xv (Instr.sliceAt 47 t16 (some (.int .i64 1)) none none)) w fun t17 w =>
 M t17 fun t1 =>
 k (Env.p e 1 t1) w)
def c18_1_s:=reg18 c18_1 c18_2 (fun N M G k e w =>
 N (xv (fieldAt 53 (e 2) 1)) w fun t13 w =>
 N (xv (loadAt 3 t13)) w fun t14 w =>
 N (xv (Instr.build 33 ([(0, t14)]).toArray)) w fun t15 w =>
 N (xv (Instr.alloc 33 true (.tuple #[]))) w fun t6 w =>
 N (xu (storeAt 33 t6 t15)) w fun _ w =>
 k (Env.p e 6 t6) w)
def c18_s:=reg18 c18 c18_1 (fun N M G k e w =>
 N (xv (Instr.box 53 (e 0))) w fun t2 w =>
 N (xv (Instr.alloc 33 true (.tuple #[]))) w fun t4 w =>
 M (.bool false) fun t5 =>
 k (Env.p (Env.p (Env.p e 2 t2) 4 t4) 5 t5) w)
theorem call18 {a0 a1 : Value} {w : World} {R : Value → World → Prop} (h : W3 Tryd.prog 86 V18 c18 (retQ Tryd.prog [.cell 4 33, .tmp 5] R) (argE [a0, a1]) w) : CallsN Tryd.prog 18 [a0, a1] w R :=
 callsN_of_W3 (c := c18) (rs := [.cell 4 33, .tmp 5]) V18 Tryd.ntmps18 (by rw [Tryd.results18]) mixed Tryd.func18 (by kernel_rfl) (by kernel_rfl) (by kernel_rfl) (by kernel_rfl) (by simp) h
def w3t_18:=w3t Tryd.prog 86 V18
def hk18 := aI @c18_7_s <| aI @c18_14_s <| aI @c18_19_s <| aI @c18_22_s <| aI @c18_21_s <| aI @c18_20_s <| aI @c18_18_s <| aI @c18_17_s <| aI @c18_16_s <| aI @c18_15_s <| aI @c18_13_s <| aI @c18_23_s <| aI @c18_12_s <| aI @c18_11_s <| aI @c18_10_s <| aI @c18_9_s <| aI @c18_8_s <| aI @c18_6_s <| aI @c18_26_s <| aI @c18_25_s <| aI @c18_24_s <| aI @c18_5_s <| aI @c18_31_s <| aI @c18_30_s <| aI @c18_34_s <| aI @c18_33_s <| aI @c18_32_s <| aI @c18_29_s <| aI @c18_28_s <| aI @c18_27_s <| aI @c18_4_s <| aI @c18_41_s <| aI @c18_40_s <| aI @c18_44_s <| aI @c18_43_s <| aI @c18_42_s <| aI @c18_39_s <| aI @c18_38_s <| aI @c18_47_s <| aI @c18_46_s <| aI @c18_45_s <| aI @c18_37_s <| aI @c18_36_s <| aI @c18_35_s <| aI @c18_3_s <| aI @c18_2_s <| aI @c18_1_s <| aI @c18_s <| @w3t_18
-- K18: ↓hk18
end
end Go.Proofs.YtbbjnplellanaaaDoor
