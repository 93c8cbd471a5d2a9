/- The equations of the code of some functions, written by the printer gen3.py: each is checked by the kernel. -/
import Derived.Test.YtbbjnplellanaaaDoorQ0
import Derived.Test.YtbbjnplellanaaaDoorCI
set_option linter.unusedVariables false
set_option linter.unusedSimpArgs false
set_option maxRecDepth 100000
namespace Go.Proofs.YtbbjnplellanaaaDoor
open Go.VW
open Go.Instr (loadAt storeAt fieldAt indexAt)
noncomputable section
set_option linter.defProp false
variable {N : NT} {T : T3T} {M : MT} {G : GT} {H : HT} {Y : YT} {k : KT} {Q : Exit → Env → World → Prop} {e el eg : Env} {w u0 u1 u2 u3 u4 u5 u6 u7 u8 u9 : World}
/-! ### vouch/script.Text -/
def V12 : Nat → Bool := fun i => [0, 2, 3, 4, 5, 6, 7, 8, 9, 10, 12, 13, 14, 15, 26, 41, 45, 51].elem i
def block12:=@s_block Tryd.prog 53 V12
def cond12:=@s_cond Tryd.prog 53 V12
def drw12:=@s_drw Tryd.prog 53 V12
def loop12:=@s_loop Tryd.prog 53 V12
def reg12:=@s_reg Tryd.prog 53 V12
def rend12:=@s_rend Tryd.prog 53 V12
def seq12:=@s_seq Tryd.prog 53 V12
noncomputable def c12:Code:=(Tryd.f12.body.getD .skip)
noncomputable def c12_1:=cR c12
noncomputable def c12_2:=cR c12_1
noncomputable def c12_3:=cR c12_2
noncomputable def c12_4:=cR c12_3
noncomputable def c12_5:=cR c12_4
noncomputable def c12_6:=cL c12_4
noncomputable def c12_7:=cR c12_6
noncomputable def c12_8:=cL c12_7
noncomputable def c12_9:=cL c12_3
noncomputable def c12_10:=cR c12_9
noncomputable def c12_11:=cL c12_10
noncomputable def c12_12:=cL c12_11
noncomputable def c12_13:=cR c12_12
noncomputable def c12_14:=cR c12_13
noncomputable def c12_15:=cR c12_14
noncomputable def c12_16:=cL c12_14
noncomputable def c12_17:=cL c12_16
noncomputable def c12_18:=cR c12_17
noncomputable def c12_19:=cR c12_18
noncomputable def b12_8:List Row:=[(0, 0, 64, 31, true), (0, 0, 256, 32, true), (2, 2, 2147483648, 33, true), (4, 6, 4294967296, 34, true), (9, 15, 9663676416, 35, true), (16, 31, 17179869184, 36, true), (0, 0, 256, 37, true), (96, 127, 103079215104, 38, false), (128, 255, 137438953472, 30, true), (256, 511, 536870912, 39, true), (256, 511, 536870912, 40, true), (1023, 1023, 274877906944, 10, true), (4095, 4095, 549755813888, 11, true)]
noncomputable def c12_20:=cR c12_19
noncomputable def c12_21:=cR c12_20
noncomputable def c12_22:=cR c12_21
noncomputable def c12_23:=cL c12_22
noncomputable def c12_24:=cL c12_20
noncomputable def c12_25:=cR c12_24
noncomputable def c12_26:=cL c12_25
noncomputable def c12_27:=cL c12_18
noncomputable def c12_28:=cR c12_27
noncomputable def c12_29:=cL c12_28
noncomputable def c12_30:=cL c12_13
def c12_5_s:=reg12 c12_5 .ret (fun N M G k e w =>
 N (xcall (.func (.func 25) #[] #[]) [(e 5)]) w fun t52 w =>
 M t52 fun t2 =>
 M (.int .i64 0) fun t3 =>
 M (.int .i64 0) fun t4 =>
 k (Env.p (Env.p (Env.p e 2 t2) 3 t3) 4 t4) w)
def c12_8_s:=reg12 c12_8 .ret (fun N M G k e w =>
 M (.string ⟨#[]⟩) fun t2 =>
 M (.int .i64 0) fun t3 =>
 M (.int .i64 2) fun t4 =>
 k (Env.p (Env.p (Env.p e 2 t2) 3 t3) 4 t4) w)
def c12_7_s:=cond12 c12_7 .skip 51 c12_8
def c12_6_s:=reg12 c12_6 c12_7 (fun N M G k e w =>
 N (xcall (.func (.func 23) #[] #[]) [(e 5)]) w fun t50 w =>
 N (xv (xbin .gtr 3 (.tmp 50) (.const (.int .i64 65536)) t50 (.int .i64 65536))) w fun t51 w =>
 k (Env.p e 51 t51) w)
def c12_4_s:=seq12 c12_4 c12_5 c12_6
def c12_15_s:=rend12 c12_15 (fun N M G k e w =>
 N (xv (xbin .add 3 (.tmp 14) (.const (.int .i64 1)) (e 14) (.int .i64 1))) w fun t49 w =>
 M t49 fun t14 =>
 k (Env.p e 14 t14) w)
def c12_23_s:=rend12 c12_23 (fun N M G k e w =>
 M (e 9) fun t46 =>
 N (xv (xbin .add 9 (.tmp 46) (.const (.string ⟨#[10]⟩)) t46 (.string ⟨#[10]⟩))) w fun t47 w =>
 N (xcall (.func (.func 24) #[] #[]) [(e 5), t47]) w fun t48 w =>
 k e w)
def c12_22_s:=cond12 c12_22 .skip 45 c12_23
def c12_21_s:=reg12 c12_21 c12_22 (fun N M G k e w =>
 N (xcall (.func (.func 23) #[] #[]) [(e 5)]) w fun t44 w =>
 N (xv (xbin .leq 3 (.tmp 44) (.const (.int .i64 65536)) t44 (.int .i64 65536))) w fun t45 w =>
 k (Env.p e 45 t45) w)
def c12_26_s:=reg12 c12_26 .ret (fun N M G k e w =>
 M (e 7) fun t42 =>
 N (xv (xbin .add 3 (.tmp 42) (.const (.int .i64 1)) t42 (.int .i64 1))) w fun t43 w =>
 M (.string ⟨#[]⟩) fun t2 =>
 M t43 fun t3 =>
 M (.int .i64 60) fun t4 =>
 k (Env.p (Env.p (Env.p e 2 t2) 3 t3) 4 t4) w)
def c12_25_s:=cond12 c12_25 .skip 41 c12_26
def c12_24_s:=reg12 c12_24 c12_25 (fun N M G k e w =>
 M (e 10) fun t40 =>
 N (xv (Op.unary .not t40)) w fun t41 w =>
 k (Env.p e 41 t41) w)
def c12_20_s:=seq12 c12_20 c12_21 c12_24
def c12_19_s:=drw12 c12_19 c12_20 b12_8 13 (fun N T M G H Y k e w =>
 M (e 6) fun t30 =>
 T (FrX none w) (xv (fieldAt 33 (e 8) 0)) fun t31 =>
 T (FrX (some []) w) (xv (loadAt 3 t31)) fun t32 =>
 T (FrX none w) (xv (xbin .sub 3 (.tmp 32) (.const (.int .i64 1)) t32 (.int .i64 1))) fun t33 =>
 T (FrX none w) (xv (indexAt 45 t30 t33)) fun t34 =>
 T (FrX (some []) w) (xv (loadAt 53 t34)) fun t35 =>
 T (FrX (some []) w) (xv (loadAt 33 (e 8))) fun t36 =>
 N (xcall (.func (.func 22) #[] #[]) [t35, t36]) w fun t37 w7 =>
 M t37 fun t29 =>
 T (FrX none w7) (xv (Instr.extract t29 0)) fun t38 =>
 T (FrX none w7) (xv (Instr.extract t29 1)) fun t39 =>
 M t38 fun t9 =>
 M t39 fun t10 =>
 k (Env.p (Env.p e 9 t9) 10 t10) w7)
def c12_29_s:=reg12 c12_29 .ret (fun N M G k e w =>
 M (e 7) fun t27 =>
 N (xv (xbin .add 3 (.tmp 27) (.const (.int .i64 1)) t27 (.int .i64 1))) w fun t28 w =>
 M (.string ⟨#[]⟩) fun t2 =>
 M t28 fun t3 =>
 M (.int .i64 60) fun t4 =>
 k (Env.p (Env.p (Env.p e 2 t2) 3 t3) 4 t4) w)
def c12_28_s:=cond12 c12_28 .skip 26 c12_29
def c12_27_s:=reg12 c12_27 c12_28 (fun N M G k e w =>
 N (xv (fieldAt 33 (e 8) 0)) w fun t19 w =>
 N (xv (loadAt 3 t19)) w fun t20 w =>
 N (xv (xbin .lss 3 (.tmp 20) (.const (.int .i64 1)) t20 (.int .i64 1))) w fun t21 w =>
 M t21 fun t22 =>
 G (isB t22 false) (fun K => N (xv (fieldAt 33 (e 8) 0)) w K) (fun t23 w =>
 G (isB t22 false) (fun K => N (xv (loadAt 3 t23)) w K) (fun t24 w =>
 G (isB t22 false) (fun K => N (xv (xbin .gtr 3 (.tmp 24) (.const (.int .i64 16)) t24 (.int .i64 16))) w K) (fun t25 w =>
 N (xpick t22 (.bool true) t25) w fun t26 w =>
 k (Env.p e 26 t26) w) w) w) w)
def c12_18_s:=seq12 c12_18 c12_19 c12_27
def c12_17_s:=reg12 c12_17 c12_18 (fun N M G k e w =>
 M (e 14) fun t16 =>
 N (xv (indexAt 23 (e 12) (e 14))) w fun t17 w =>
 N (xv (loadAt 33 t17)) w fun t18 w =>
 N (xv (Instr.alloc 33 true (.tuple #[]))) w fun t8 w =>
 M t16 fun t7 =>
 N (xu (storeAt 33 t8 t18)) w fun _ w =>
 k (Env.p (Env.p e 8 t8) 7 t7) w)
def c12_16_s:=block12 c12_16 c12_17 1
def c12_14_s:=seq12 c12_14 c12_15 c12_16
def c12_30_s:=cond12 c12_30 (.exit 0) 15 .skip
def c12_13_s:=seq12 c12_13 c12_14 c12_30
def c12_12_s:=reg12 c12_12 c12_13 (fun N M G k e w =>
 N (xv (xbin .lss 3 (.tmp 14) (.tmp 13) (e 14) (e 13))) w fun t15 w =>
 k (Env.p e 15 t15) w)
def c12_11_s:=loop12 c12_11 c12_12
def c12_10_s:=block12 c12_10 c12_11 0
def c12_9_s:=reg12 c12_9 c12_10 (fun N M G k e w =>
 M (e 0) fun t12 =>
 N (builtin Builtin.len #[23] 3 ([false]).toArray ([t12]).toArray) w fun t13 w =>
 M (.int .i64 0) fun t14 =>
 k (Env.p (Env.p (Env.p e 12 t12) 13 t13) 14 t14) w)
def c12_3_s:=seq12 c12_3 c12_4 c12_9
def c12_2_s:=reg12 c12_2 c12_3 (fun N M G k e w =>
 N (xcall (.func (.func 15) #[] #[]) []) w fun t11 w =>
 M t11 fun t6 =>
 k (Env.p e 6 t6) w)
def c12_1_s:=reg12 c12_1 c12_2 (fun N M G k e w =>
 N (xv (Instr.alloc 63 true (.tuple #[]))) w fun t5 w =>
 k (Env.p e 5 t5) w)
def c12_s:=reg12 c12 c12_1 (fun N M G k e w =>
 M (.string ⟨#[]⟩) fun t2 =>
 M (.int .i64 0) fun t3 =>
 M (.int .i64 0) fun t4 =>
 k (Env.p (Env.p (Env.p e 2 t2) 3 t3) 4 t4) w)
theorem call12 {a0 : Value} {w : World} {R : Value → World → Prop} (h : W3 Tryd.prog 53 V12 c12 (retQ Tryd.prog [.tmp 2, .tmp 3, .tmp 4] R) (argE [a0]) w) : CallsN Tryd.prog 12 [a0] w R :=
 callsN_of_W3 (c := c12) (rs := [.tmp 2, .tmp 3, .tmp 4]) V12 Tryd.ntmps12 (by rw [Tryd.results12]) mixed Tryd.func12 (by kernel_rfl) (by kernel_rfl) (by kernel_rfl) (by kernel_rfl) (by simp) h
def w3t_12:=w3t Tryd.prog 53 V12
def hk12 := aI @c12_5_s <| aI @c12_8_s <| aI @c12_7_s <| aI @c12_6_s <| aI @c12_4_s <| aI @c12_15_s <| aI @c12_23_s <| aI @c12_22_s <| aI @c12_21_s <| aI @c12_26_s <| aI @c12_25_s <| aI @c12_24_s <| aI @c12_20_s <| aI @c12_19_s <| aI @c12_29_s <| aI @c12_28_s <| aI @c12_27_s <| aI @c12_18_s <| aI @c12_17_s <| aI @c12_16_s <| aI @c12_14_s <| aI @c12_30_s <| aI @c12_13_s <| aI @c12_12_s <| aI @c12_11_s <| aI @c12_10_s <| aI @c12_9_s <| aI @c12_3_s <| aI @c12_2_s <| aI @c12_1_s <| aI @c12_s <| @w3t_12
-- K12: ↓hk12
/-! ### (vouch/script.form) . line -/
def V22 : Nat → Bool := fun i => [0, 1, 2, 3, 4, 5, 6, 7, 8, 10, 15, 26, 34, 52, 55, 56, 57, 58, 81, 82, 96].elem i
def block22:=@s_block Tryd.prog 109 V22
def cond22:=@s_cond Tryd.prog 109 V22
def loop22:=@s_loop Tryd.prog 109 V22
def reg22:=@s_reg Tryd.prog 109 V22
def rend22:=@s_rend Tryd.prog 109 V22
def seq22:=@s_seq Tryd.prog 109 V22
noncomputable def c22:Code:=(Tryd.f22.body.getD .skip)
noncomputable def c22_1:=cR c22
noncomputable def c22_2:=cR c22_1
noncomputable def c22_3:=cR c22_2
noncomputable def c22_4:=cR c22_3
noncomputable def c22_5:=cR c22_4
noncomputable def c22_6:=cR c22_5
noncomputable def c22_7:=cL c22_5
noncomputable def c22_8:=cR c22_7
noncomputable def c22_9:=cL c22_8
noncomputable def c22_10:=cL c22_9
noncomputable def c22_11:=cR c22_10
noncomputable def c22_12:=cR c22_11
noncomputable def c22_13:=cR c22_12
noncomputable def c22_14:=cL c22_12
noncomputable def c22_15:=cL c22_14
noncomputable def c22_16:=cR c22_15
noncomputable def c22_17:=cR c22_16
noncomputable def c22_18:=cL c22_17
noncomputable def c22_19:=cR c22_18
noncomputable def c22_20:=cL c22_19
noncomputable def c22_21:=cR c22_19
noncomputable def c22_22:=cR c22_21
noncomputable def c22_23:=cL c22_22
noncomputable def c22_24:=cR c22_22
noncomputable def c22_25:=cL c22_16
noncomputable def c22_26:=cR c22_25
noncomputable def c22_27:=cL c22_26
noncomputable def c22_28:=cL c22_11
noncomputable def c22_29:=cL c22_4
noncomputable def c22_30:=cR c22_29
noncomputable def c22_31:=cL c22_30
noncomputable def c22_32:=cL c22_3
noncomputable def c22_33:=cR c22_32
noncomputable def c22_34:=cL c22_33
noncomputable def c22_35:=cR c22_34
noncomputable def c22_36:=cL c22_2
noncomputable def c22_37:=cR c22_36
noncomputable def c22_38:=cL c22_37
noncomputable def c22_39:=cR c22_38
noncomputable def c22_40:=cR c22_39
noncomputable def c22_41:=cL c22_39
noncomputable def c22_42:=cR c22_41
noncomputable def c22_43:=cL c22_42
def c22_6_s:=reg22 c22_6 .ret (fun N M G k e w =>
 M (e 6) fun t108 =>
 M t108 fun t4 =>
 M (.bool true) fun t5 =>
 k (Env.p (Env.p e 4 t4) 5 t5) w)
def c22_13_s:=rend22 c22_13 (fun N M G k e w =>
 N (xv (xbin .add 3 (.tmp 57) (.const (.int .i64 1)) (e 57) (.int .i64 1))) w fun t107 w =>
 M t107 fun t57 =>
 k (Env.p e 57 t57) w)
def c22_20_s:=rend22 c22_20 (fun N M G k e w =>
 M (e 6) fun t86 =>
 N (xv (fieldAt 60 (e 10) 0)) w fun t87 w =>
 N (xv (loadAt 9 t87)) w fun t88 w =>
 N (xv (xbin .add 9 (.const (.string ⟨#[32]⟩)) (.tmp 88) (.string ⟨#[32]⟩) t88)) w fun t89 w =>
 N (xv (xbin .add 9 (.tmp 89) (.const (.string ⟨#[61]⟩)) t89 (.string ⟨#[61]⟩))) w fun t90 w =>
 N (xv (fieldAt 60 (e 10) 1)) w fun t91 w =>
 N (xv (fieldAt 58 t91 1)) w fun t92 w =>
 N (xv (loadAt 9 t92)) w fun t93 w =>
 N (xv (xbin .add 9 (.tmp 90) (.tmp 93) t90 t93)) w fun t94 w =>
 N (xv (xbin .add 9 (.tmp 86) (.tmp 94) t86 t94)) w fun t95 w =>
 M t95 fun t6 =>
 k (Env.p e 6 t6) w)
def c22_23_s:=rend22 c22_23 (fun N M G k e w =>
 M (e 6) fun t101 =>
 N (xv (fieldAt 60 (e 10) 0)) w fun t102 w =>
 N (xv (loadAt 9 t102)) w fun t103 w =>
 N (xv (xbin .add 9 (.const (.string ⟨#[32]⟩)) (.tmp 103) (.string ⟨#[32]⟩) t103)) w fun t104 w =>
 N (xv (xbin .add 9 (.tmp 104) (.const (.string ⟨#[33]⟩)) t104 (.string ⟨#[33]⟩))) w fun t105 w =>
 N (xv (xbin .add 9 (.tmp 101) (.tmp 105) t101 t105)) w fun t106 w =>
 M t106 fun t6 =>
 k (Env.p e 6 t6) w)
def c22_24_s:=reg22 c22_24 .ret (fun N M G k e w =>
 M (.string ⟨#[]⟩) fun t4 =>
 M (.bool false) fun t5 =>
 k (Env.p (Env.p e 4 t4) 5 t5) w)
def c22_22_s:=cond22 c22_22 c22_24 96 c22_23
def c22_21_s:=reg22 c22_21 c22_22 (fun N M G k e w =>
 N (xv (fieldAt 60 (e 10) 1)) w fun t97 w =>
 N (xv (fieldAt 58 t97 1)) w fun t98 w =>
 N (xv (loadAt 9 t98)) w fun t99 w =>
 N (xv (xbin .eql 9 (.tmp 99) (.const (.string ⟨#[]⟩)) t99 (.string ⟨#[]⟩))) w fun t100 w =>
 M t100 fun t96 =>
 k (Env.p e 96 t96) w)
def c22_19_s:=cond22 c22_19 c22_21 82 c22_20
def c22_18_s:=reg22 c22_18 c22_19 (fun N M G k e w =>
 N (xv (fieldAt 60 (e 10) 1)) w fun t83 w =>
 N (xv (fieldAt 58 t83 0)) w fun t84 w =>
 N (xv (loadAt 4 t84)) w fun t85 w =>
 M t85 fun t82 =>
 k (Env.p e 82 t82) w)
def c22_17_s:=block22 c22_17 c22_18 2
def c22_27_s:=reg22 c22_27 .ret (fun N M G k e w =>
 M (.string ⟨#[]⟩) fun t4 =>
 M (.bool false) fun t5 =>
 k (Env.p (Env.p e 4 t4) 5 t5) w)
def c22_26_s:=cond22 c22_26 .skip 81 c22_27
def c22_25_s:=reg22 c22_25 c22_26 (fun N M G k e w =>
 N (xv (fieldAt 60 (e 10) 0)) w fun t61 w =>
 N (xv (loadAt 9 t61)) w fun t62 w =>
 N (xv (xbin .eql 9 (.tmp 62) (.const (.string ⟨#[]⟩)) t62 (.string ⟨#[]⟩))) w fun t63 w =>
 M t63 fun t64 =>
 G (isB t64 false) (fun K => N (xv (fieldAt 60 (e 10) 0)) w K) (fun t65 w =>
 G (isB t64 false) (fun K => N (xv (loadAt 9 t65)) w K) (fun t66 w =>
 G (isB t64 false) (fun K => N (xcall (.func (.func 42) #[] #[]) [t66]) w K) (fun t67 w =>
 G (isB t64 false) (fun K => N (xv (Op.unary .not t67)) w K) (fun t68 w =>
 N (xpick t64 (.bool true) t68) w fun t69 w =>
 M t69 fun t70 =>
 G (isB t70 false) (fun K => N (xv (fieldAt 60 (e 10) 0)) w K) (fun t71 w =>
 G (isB t70 false) (fun K => N (xv (loadAt 9 t71)) w K) (fun t72 w =>
 G (isB t70 false) (fun K => N (xcall (.func (.func 43) #[] #[]) [t72, (.string ⟨#[61]⟩)]) w K) (fun t73 w =>
 N (xpick t70 (.bool true) t73) w fun t74 w =>
 M t74 fun t75 =>
 G (isB t75 false) (fun K => N (xv (fieldAt 60 (e 10) 1)) w K) (fun t76 w =>
 G (isB t75 false) (fun K => N (xv (fieldAt 58 t76 1)) w K) (fun t77 w =>
 G (isB t75 false) (fun K => N (xv (loadAt 9 t77)) w K) (fun t78 w =>
 G (isB t75 false) (fun K => N (xcall (.func (.func 42) #[] #[]) [t78]) w K) (fun t79 w =>
 G (isB t75 false) (fun K => N (xv (Op.unary .not t79)) w K) (fun t80 w =>
 N (xpick t75 (.bool true) t80) w fun t81 w =>
 k (Env.p e 81 t81) w) w) w) w) w) w) w) w) w) w) w) w) w)
def c22_16_s:=seq22 c22_16 c22_17 c22_25
def c22_15_s:=reg22 c22_15 c22_16 (fun N M G k e w =>
 N (xv (indexAt 31 (e 55) (e 57))) w fun t59 w =>
 N (xv (loadAt 60 t59)) w fun t60 w =>
 N (xv (Instr.alloc 60 true (.tuple #[]))) w fun t10 w =>
 N (xu (storeAt 60 t10 t60)) w fun _ w =>
 k (Env.p e 10 t10) w)
def c22_14_s:=block22 c22_14 c22_15 1
def c22_12_s:=seq22 c22_12 c22_13 c22_14
def c22_28_s:=cond22 c22_28 (.exit 0) 58 .skip
def c22_11_s:=seq22 c22_11 c22_12 c22_28
def c22_10_s:=reg22 c22_10 c22_11 (fun N M G k e w =>
 N (xv (xbin .lss 3 (.tmp 57) (.tmp 56) (e 57) (e 56))) w fun t58 w =>
 k (Env.p e 58 t58) w)
def c22_9_s:=loop22 c22_9 c22_10
def c22_8_s:=block22 c22_8 c22_9 0
def c22_7_s:=reg22 c22_7 c22_8 (fun N M G k e w =>
 N (xv (fieldAt 33 (e 3) 6)) w fun t54 w =>
 N (xv (loadAt 31 t54)) w fun t55 w =>
 N (builtin Builtin.len #[31] 3 ([false]).toArray ([t55]).toArray) w fun t56 w =>
 M (.int .i64 0) fun t57 =>
 k (Env.p (Env.p (Env.p e 55 t55) 56 t56) 57 t57) w)
def c22_5_s:=seq22 c22_5 c22_6 c22_7
def c22_31_s:=reg22 c22_31 .ret (fun N M G k e w =>
 M (e 6) fun t53 =>
 M t53 fun t4 =>
 M (.bool true) fun t5 =>
 k (Env.p (Env.p e 4 t4) 5 t5) w)
def c22_30_s:=cond22 c22_30 .skip 52 c22_31
def c22_29_s:=reg22 c22_29 c22_30 (fun N M G k e w =>
 N (xv (fieldAt 53 (e 2) 1)) w fun t50 w =>
 N (xv (loadAt 3 t50)) w fun t51 w =>
 N (xv (xbin .neq 3 (.tmp 51) (.const (.int .i64 2)) t51 (.int .i64 2))) w fun t52 w =>
 k (Env.p e 52 t52) w)
def c22_4_s:=seq22 c22_4 c22_5 c22_29
def c22_35_s:=reg22 c22_35 .ret (fun N M G k e w =>
 M (e 6) fun t40 =>
 N (xv (xbin .add 9 (.tmp 40) (.const (.string ⟨#[32]⟩)) t40 (.string ⟨#[32]⟩))) w fun t41 w =>
 M (e 8) fun t42 =>
 N (xv (xbin .add 9 (.tmp 41) (.tmp 42) t41 t42)) w fun t43 w =>
 M (e 8) fun t44 =>
 N (xv (xbin .neq 9 (.tmp 44) (.const (.string ⟨#[]⟩)) t44 (.string ⟨#[]⟩))) w fun t45 w =>
 M t45 fun t46 =>
 G (isB t46 true) (fun K => M (e 8) fun v => K v w) (fun t47 w =>
 G (isB t46 true) (fun K => N (xcall (.func (.func 42) #[] #[]) [t47]) w K) (fun t48 w =>
 N (xpick t46 t48 (.bool false)) w fun t49 w =>
 M t43 fun t4 =>
 M t49 fun t5 =>
 k (Env.p (Env.p e 4 t4) 5 t5) w) w) w)
def c22_34_s:=reg22 c22_34 c22_35 (fun N M G k e w =>
 N (xv (fieldAt 53 (e 2) 3)) w fun t35 w =>
 N (xv (loadAt 51 t35)) w fun t36 w =>
 N (xcall t36 [(e 3)]) w fun t37 w =>
 N (xnil t37) w fun t38 w =>
 N (xv (loadAt 9 t38)) w fun t39 w =>
 M t39 fun t8 =>
 k (Env.p e 8 t8) w)
def c22_33_s:=cond22 c22_33 .skip 34 c22_34
def c22_32_s:=reg22 c22_32 c22_33 (fun N M G k e w =>
 N (xv (fieldAt 53 (e 2) 3)) w fun t32 w =>
 N (xv (loadAt 51 t32)) w fun t33 w =>
 N (xv (xbin .neq 51 (.tmp 33) (.const Value.nilFunc) t33 Value.nilFunc)) w fun t34 w =>
 k (Env.p e 34 t34) w)
def c22_3_s:=seq22 c22_3 c22_4 c22_32
def c22_40_s:=rend22 c22_40 (fun N M G k e w =>
 M (e 6) fun t27 =>
 M (e 7) fun t28 =>
 N (xcall (.func (.func 41) #[] #[]) [t28]) w fun t29 w =>
 N (xv (xbin .add 9 (.const (.string ⟨#[32]⟩)) (.tmp 29) (.string ⟨#[32]⟩) t29)) w fun t30 w =>
 N (xv (xbin .add 9 (.tmp 27) (.tmp 30) t27 t30)) w fun t31 w =>
 M t31 fun t6 =>
 k (Env.p e 6 t6) w)
def c22_43_s:=reg22 c22_43 .ret (fun N M G k e w =>
 M (.string ⟨#[]⟩) fun t4 =>
 M (.bool false) fun t5 =>
 k (Env.p (Env.p e 4 t4) 5 t5) w)
def c22_42_s:=cond22 c22_42 .skip 26 c22_43
def c22_41_s:=reg22 c22_41 c22_42 (fun N M G k e w =>
 M (e 7) fun t21 =>
 N (xv (xbin .lss 3 (.tmp 21) (.const (.int .i64 0)) t21 (.int .i64 0))) w fun t22 w =>
 M t22 fun t23 =>
 G (isB t23 false) (fun K => M (e 7) fun v => K v w) (fun t24 w =>
 G (isB t23 false) (fun K => N (xv (xbin .gtr 3 (.tmp 24) (.const (.int .i64 999999999)) t24 (.int .i64 999999999))) w K) (fun t25 w =>
 N (xpick t23 (.bool true) t25) w fun t26 w =>
 k (Env.p e 26 t26) w) w) w)
def c22_39_s:=seq22 c22_39 c22_40 c22_41
def c22_38_s:=reg22 c22_38 c22_39 (fun N M G k e w =>
 N (xv (fieldAt 53 (e 2) 2)) w fun t16 w =>
 N (xv (loadAt 50 t16)) w fun t17 w =>
 N (xcall t17 [(e 3)]) w fun t18 w =>
 N (xnil t18) w fun t19 w =>
 N (xv (loadAt 3 t19)) w fun t20 w =>
 M t20 fun t7 =>
 k (Env.p e 7 t7) w)
def c22_37_s:=cond22 c22_37 .skip 15 c22_38
def c22_36_s:=reg22 c22_36 c22_37 (fun N M G k e w =>
 N (xv (fieldAt 53 (e 2) 2)) w fun t13 w =>
 N (xv (loadAt 50 t13)) w fun t14 w =>
 N (xv (xbin .neq 50 (.tmp 14) (.const Value.nilFunc) t14 Value.nilFunc)) w fun t15 w =>
 k (Env.p e 15 t15) w)
def c22_2_s:=seq22 c22_2 c22_3 c22_36
def c22_1_s:=reg22 c22_1 c22_2 (fun N M G k e w =>
 N (xv (fieldAt 53 (e 2) 0)) w fun t11 w =>
 N (xv (loadAt 9 t11)) w fun t12 w =>
 M t12 fun t6 =>
 k (Env.p e 6 t6) w)
def c22_s:=reg22 c22 c22_1 (fun N M G k e w =>
 N (xv (Instr.box 53 (e 0))) w fun t2 w =>
 N (xv (Instr.box 33 (e 1))) w fun t3 w =>
 M (.string ⟨#[]⟩) fun t4 =>
 M (.bool false) fun t5 =>
 k (Env.p (Env.p (Env.p (Env.p e 2 t2) 3 t3) 4 t4) 5 t5) w)
theorem call22 {a0 a1 : Value} {w : World} {R : Value → World → Prop} (h : W3 Tryd.prog 109 V22 c22 (retQ Tryd.prog [.tmp 4, .tmp 5] R) (argE [a0, a1]) w) : CallsN Tryd.prog 22 [a0, a1] w R :=
 callsN_of_W3 (c := c22) (rs := [.tmp 4, .tmp 5]) V22 Tryd.ntmps22 (by rw [Tryd.results22]) mixed Tryd.func22 (by kernel_rfl) (by kernel_rfl) (by kernel_rfl) (by kernel_rfl) (by simp) h
def w3t_22:=w3t Tryd.prog 109 V22
def hk22 := aI @c22_6_s <| aI @c22_13_s <| aI @c22_20_s <| aI @c22_23_s <| aI @c22_24_s <| aI @c22_22_s <| aI @c22_21_s <| aI @c22_19_s <| aI @c22_18_s <| aI @c22_17_s <| aI @c22_27_s <| aI @c22_26_s <| aI @c22_25_s <| aI @c22_16_s <| aI @c22_15_s <| aI @c22_14_s <| aI @c22_12_s <| aI @c22_28_s <| aI @c22_11_s <| aI @c22_10_s <| aI @c22_9_s <| aI @c22_8_s <| aI @c22_7_s <| aI @c22_5_s <| aI @c22_31_s <| aI @c22_30_s <| aI @c22_29_s <| aI @c22_4_s <| aI @c22_35_s <| aI @c22_34_s <| aI @c22_33_s <| aI @c22_32_s <| aI @c22_3_s <| aI @c22_40_s <| aI @c22_43_s <| aI @c22_42_s <| aI @c22_41_s <| aI @c22_39_s <| aI @c22_38_s <| aI @c22_37_s <| aI @c22_36_s <| aI @c22_2_s <| aI @c22_1_s <| aI @c22_s <| @w3t_22
-- K22: ↓hk22
/-! ### vouch/script.plain -/
def V42 : Nat → Bool := fun i => [0, 2].elem i
def reg42:=@s_reg Tryd.prog 6 V42
noncomputable def c42:Code:=(Tryd.f42.body.getD .skip)
noncomputable def c42_1:=cR c42
def c42_1_s:=reg42 c42_1 .ret (fun N M G k e w =>
 M (e 0) fun t3 =>
 N (xcall (.func (.func 54) #[] #[]) [t3, (.string ⟨#[32, 10]⟩)]) w fun t4 w =>
 N (xv (Op.unary .not t4)) w fun t5 w =>
 M t5 fun t2 =>
 k (Env.p e 2 t2) w)
def c42_s:=reg42 c42 c42_1 (fun N M G k e w =>
 M (.bool false) fun t2 =>
 k (Env.p e 2 t2) w)
theorem call42 {a0 : Value} {w : World} {R : Value → World → Prop} (h : W3 Tryd.prog 6 V42 c42 (retQ Tryd.prog [.tmp 2] R) (argE [a0]) w) : CallsN Tryd.prog 42 [a0] w R :=
 callsN_of_W3 (c := c42) (rs := [.tmp 2]) V42 Tryd.ntmps42 (by rw [Tryd.results42]) mixed Tryd.func42 (by kernel_rfl) (by kernel_rfl) (by kernel_rfl) (by kernel_rfl) (by simp) h
def w3t_42:=w3t Tryd.prog 6 V42
def hk42 := aI @c42_1_s <| aI @c42_s <| @w3t_42
-- K42: ↓hk42
/-! ### strings.ContainsAny -/
def V54 : Nat → Bool := fun i => [0, 1, 4].elem i
def reg54:=@s_reg Tryd.prog 9 V54
noncomputable def c54:Code:=(Tryd.f54.body.getD .skip)
noncomputable def c54_1:=cR c54
def c54_1_s:=reg54 c54_1 .ret (fun N M G k e w =>
 M (e 0) fun t5 =>
 M (e 1) fun t6 =>
 N (xcall (.func (.func 63) #[] #[]) [t5, t6]) w fun t7 w =>
 N (xv (xbin .geq 3 (.tmp 7) (.const (.int .i64 0)) t7 (.int .i64 0))) w fun t8 w =>
 M t8 fun t4 =>
 k (Env.p e 4 t4) w)
def c54_s:=reg54 c54 c54_1 (fun N M G k e w =>
 M (.bool false) fun t4 =>
 k (Env.p e 4 t4) w)
theorem call54 {a0 a1 : Value} {w : World} {R : Value → World → Prop} (h : W3 Tryd.prog 9 V54 c54 (retQ Tryd.prog [.tmp 4] R) (argE [a0, a1]) w) : CallsN Tryd.prog 54 [a0, a1] w R :=
 callsN_of_W3 (c := c54) (rs := [.tmp 4]) V54 Tryd.ntmps54 (by rw [Tryd.results54]) mixed Tryd.func54 (by kernel_rfl) (by kernel_rfl) (by kernel_rfl) (by kernel_rfl) (by simp) h
def w3t_54:=w3t Tryd.prog 9 V54
def hk54 := aI @c54_1_s <| aI @c54_s <| @w3t_54
-- K54: ↓hk54
/-! ### strings.IndexAny -/
def V63 : Nat → Bool := fun i => [0, 1, 4, 5, 6, 7, 8, 9, 10, 12, 15, 20, 26, 32, 36, 42, 45, 46, 47, 53].elem i
def block63:=@s_block Tryd.prog 55 V63
def cond63:=@s_cond Tryd.prog 55 V63
def loop63:=@s_loop Tryd.prog 55 V63
def reg63:=@s_reg Tryd.prog 55 V63
def rend63:=@s_rend Tryd.prog 55 V63
def seq63:=@s_seq Tryd.prog 55 V63
noncomputable def c63:Code:=(Tryd.f63.body.getD .skip)
noncomputable def c63_1:=cR c63
noncomputable def c63_2:=cR c63_1
noncomputable def c63_3:=cR c63_2
noncomputable def c63_4:=cR c63_3
noncomputable def c63_5:=cR c63_4
noncomputable def c63_6:=cL c63_4
noncomputable def c63_7:=cR c63_6
noncomputable def c63_8:=cL c63_7
noncomputable def c63_9:=cL c63_8
noncomputable def c63_10:=cR c63_9
noncomputable def c63_11:=cR c63_10
noncomputable def c63_12:=cL c63_11
noncomputable def c63_13:=cR c63_12
noncomputable def c63_14:=cR c63_13
noncomputable def c63_15:=cL c63_14
noncomputable def c63_16:=cL c63_10
noncomputable def c63_17:=cL c63_3
noncomputable def c63_18:=cR c63_17
noncomputable def c63_19:=cL c63_18
noncomputable def c63_20:=cR c63_19
noncomputable def c63_21:=cR c63_20
noncomputable def c63_22:=cL c63_21
noncomputable def c63_23:=cR c63_22
noncomputable def c63_24:=cL c63_22
noncomputable def c63_25:=cR c63_24
noncomputable def c63_26:=cL c63_25
noncomputable def c63_27:=cL c63_26
noncomputable def c63_28:=cR c63_27
noncomputable def c63_29:=cR c63_28
noncomputable def c63_30:=cL c63_28
noncomputable def c63_31:=cL c63_30
noncomputable def c63_32:=cR c63_31
noncomputable def c63_33:=cL c63_32
noncomputable def c63_34:=cL c63_27
noncomputable def c63_35:=cR c63_34
noncomputable def c63_36:=cL c63_2
noncomputable def c63_37:=cR c63_36
noncomputable def c63_38:=cL c63_37
noncomputable def c63_39:=cR c63_38
noncomputable def c63_40:=cR c63_39
noncomputable def c63_41:=cL c63_39
noncomputable def c63_42:=cR c63_41
noncomputable def c63_43:=cL c63_42
noncomputable def c63_44:=cL c63_1
noncomputable def c63_45:=cR c63_44
noncomputable def c63_46:=cL c63_45
def c63_5_s:=reg63 c63_5 .ret (fun N M G k e w =>
 M (.int .i64 (-1)) fun t4 =>
 k (Env.p e 4 t4) w)
def c63_15_s:=reg63 c63_15 .ret (fun N M G k e w =>
 M (e 9) fun t54 =>
 M t54 fun t4 =>
 k (Env.p e 4 t4) w)
def c63_14_s:=cond63 c63_14 .skip 53 c63_15
def c63_13_s:=reg63 c63_13 c63_14 (fun N M G k e w =>
 M (e 1) fun t50 =>
 M (e 10) fun t51 =>
 N (xcall (.func (.func 74) #[] #[]) [t50, t51]) w fun t52 w =>
 N (xv (xbin .geq 3 (.tmp 52) (.const (.int .i64 0)) t52 (.int .i64 0))) w fun t53 w =>
 k (Env.p e 53 t53) w)
def c63_12_s:=reg63 c63_12 c63_13 (fun N M G k e w =>
 N (xv (Instr.extract (e 46) 1)) w fun t48 w =>
 N (xv (Instr.extract (e 46) 2)) w fun t49 w =>
 M t48 fun t9 =>
 M t49 fun t10 =>
 k (Env.p (Env.p e 9 t9) 10 t10) w)
def c63_11_s:=block63 c63_11 c63_12 3
def c63_16_s:=cond63 c63_16 (.exit 2) 47 .skip
def c63_10_s:=seq63 c63_10 c63_11 c63_16
def c63_9_s:=reg63 c63_9 c63_10 (fun N M G k e w =>
 N (xv (Instr.next (e 45) true 0)) w fun t46 w =>
 N (xv (Instr.extract t46 0)) w fun t47 w =>
 k (Env.p (Env.p e 46 t46) 47 t47) w)
def c63_8_s:=loop63 c63_8 c63_9
def c63_7_s:=block63 c63_7 c63_8 2
def c63_6_s:=reg63 c63_6 c63_7 (fun N M G k e w =>
 M (e 0) fun t44 =>
 N (xv (Instr.range 9 t44)) w fun t45 w =>
 k (Env.p e 45 t45) w)
def c63_4_s:=seq63 c63_4 c63_5 c63_6
def c63_23_s:=reg63 c63_23 .ret (fun N M G k e w =>
 M (.int .i64 (-1)) fun t4 =>
 k (Env.p e 4 t4) w)
def c63_29_s:=rend63 c63_29 (fun N M G k e w =>
 M (e 8) fun t37 =>
 N (xv (xbin .add 3 (.tmp 37) (.const (.int .i64 1)) t37 (.int .i64 1))) w fun t38 w =>
 M t38 fun t8 =>
 k (Env.p e 8 t8) w)
def c63_33_s:=reg63 c63_33 .ret (fun N M G k e w =>
 M (e 8) fun t43 =>
 M t43 fun t4 =>
 k (Env.p e 4 t4) w)
def c63_32_s:=cond63 c63_32 .skip 42 c63_33
def c63_31_s:=reg63 c63_31 c63_32 (fun N M G k e w =>
 M (e 0) fun t39 =>
 M (e 8) fun t40 =>
 N (xv (Instr.index 9 t39 t40)) w fun t41 w =>
 N (xcall (.func (.func 77) #[] #[]) [(e 6), t41]) w fun t42 w =>
 k (Env.p e 42 t42) w)
def c63_30_s:=block63 c63_30 c63_31 1
def c63_28_s:=seq63 c63_28 c63_29 c63_30
def c63_35_s:=cond63 c63_35 (.exit 0) 36 .skip
def c63_34_s:=reg63 c63_34 c63_35 (fun N M G k e w =>
 M (e 8) fun t33 =>
 M (e 0) fun t34 =>
 N (builtin Builtin.len #[9] 3 ([false]).toArray ([t34]).toArray) w fun t35 w =>
 N (xv (xbin .lss 3 (.tmp 33) (.tmp 35) t33 t35)) w fun t36 w =>
 k (Env.p e 36 t36) w)
def c63_27_s:=seq63 c63_27 c63_28 c63_34
def c63_26_s:=loop63 c63_26 c63_27
def c63_25_s:=block63 c63_25 c63_26 0
def c63_24_s:=reg63 c63_24 c63_25 (fun N M G k e w =>
 M (.int .i64 0) fun t8 =>
 k (Env.p e 8 t8) w)
def c63_22_s:=seq63 c63_22 c63_23 c63_24
def c63_21_s:=cond63 c63_21 .skip 32 c63_22
def c63_20_s:=reg63 c63_20 c63_21 (fun N M G k e w =>
 M (e 7) fun t32 =>
 k (Env.p e 32 t32) w)
def c63_19_s:=reg63 c63_19 c63_20 (fun N M G k e w =>
 M (e 1) fun t28 =>
 N (xcall (.func (.func 76) #[] #[]) [t28]) w fun t29 w =>
 M t29 fun t27 =>
 N (xv (Instr.extract t27 0)) w fun t30 w =>
 N (xv (Instr.extract t27 1)) w fun t31 w =>
 N (xv (Instr.alloc 112 true (.tuple #[]))) w fun t6 w =>
 N (xu (storeAt 112 t6 t30)) w fun _ w =>
 M t31 fun t7 =>
 k (Env.p (Env.p e 6 t6) 7 t7) w)
def c63_18_s:=cond63 c63_18 .skip 26 c63_19
def c63_17_s:=reg63 c63_17 c63_18 (fun N M G k e w =>
 M (e 0) fun t24 =>
 N (builtin Builtin.len #[9] 3 ([false]).toArray ([t24]).toArray) w fun t25 w =>
 N (xcall (.func (.func 75) #[] #[]) [t25]) w fun t26 w =>
 k (Env.p e 26 t26) w)
def c63_3_s:=seq63 c63_3 c63_4 c63_17
def c63_40_s:=reg63 c63_40 .ret (fun N M G k e w =>
 M (e 0) fun t21 =>
 M (e 5) fun t22 =>
 N (xcall (.func (.func 74) #[] #[]) [t21, t22]) w fun t23 w =>
 M t23 fun t4 =>
 k (Env.p e 4 t4) w)
def c63_43_s:=rend63 c63_43 (fun N M G k e w =>
 M (.int .i32 65533) fun t5 =>
 k (Env.p e 5 t5) w)
def c63_42_s:=cond63 c63_42 .skip 20 c63_43
def c63_41_s:=reg63 c63_41 c63_42 (fun N M G k e w =>
 M (e 5) fun t19 =>
 N (xv (xbin .geq 21 (.tmp 19) (.const (.int .i32 128)) t19 (.int .i32 128))) w fun t20 w =>
 k (Env.p e 20 t20) w)
def c63_39_s:=seq63 c63_39 c63_40 c63_41
def c63_38_s:=reg63 c63_38 c63_39 (fun N M G k e w =>
 M (e 1) fun t16 =>
 N (xv (Instr.index 9 t16 (.int .i64 0))) w fun t17 w =>
 N (xv (convert 5 21 t17)) w fun t18 w =>
 M t18 fun t5 =>
 k (Env.p e 5 t5) w)
def c63_37_s:=cond63 c63_37 .skip 15 c63_38
def c63_36_s:=reg63 c63_36 c63_37 (fun N M G k e w =>
 M (e 1) fun t13 =>
 N (builtin Builtin.len #[9] 3 ([false]).toArray ([t13]).toArray) w fun t14 w =>
 N (xv (xbin .eql 3 (.tmp 14) (.const (.int .i64 1)) t14 (.int .i64 1))) w fun t15 w =>
 k (Env.p e 15 t15) w)
def c63_2_s:=seq63 c63_2 c63_3 c63_36
def c63_46_s:=reg63 c63_46 .ret (fun N M G k e w =>
 M (.int .i64 (-1)) fun t4 =>
 k (Env.p e 4 t4) w)
def c63_45_s:=cond63 c63_45 .skip 12 c63_46
def c63_44_s:=reg63 c63_44 c63_45 (fun N M G k e w =>
 M (e 1) fun t11 =>
 N (xv (xbin .eql 9 (.tmp 11) (.const (.string ⟨#[]⟩)) t11 (.string ⟨#[]⟩))) w fun t12 w =>
 k (Env.p e 12 t12) w)
def c63_1_s:=seq63 c63_1 c63_2 c63_44
def c63_s:=reg63 c63 c63_1 (fun N M G k e w =>
 M (.int .i64 0) fun t4 =>
 k (Env.p e 4 t4) w)
theorem call63 {a0 a1 : Value} {w : World} {R : Value → World → Prop} (h : W3 Tryd.prog 55 V63 c63 (retQ Tryd.prog [.tmp 4] R) (argE [a0, a1]) w) : CallsN Tryd.prog 63 [a0, a1] w R :=
 callsN_of_W3 (c := c63) (rs := [.tmp 4]) V63 Tryd.ntmps63 (by rw [Tryd.results63]) mixed Tryd.func63 (by kernel_rfl) (by kernel_rfl) (by kernel_rfl) (by kernel_rfl) (by simp) h
def w3t_63:=w3t Tryd.prog 55 V63
def hk63 := aI @c63_5_s <| aI @c63_15_s <| aI @c63_14_s <| aI @c63_13_s <| aI @c63_12_s <| aI @c63_11_s <| aI @c63_16_s <| aI @c63_10_s <| aI @c63_9_s <| aI @c63_8_s <| aI @c63_7_s <| aI @c63_6_s <| aI @c63_4_s <| aI @c63_23_s <| aI @c63_29_s <| aI @c63_33_s <| aI @c63_32_s <| aI @c63_31_s <| aI @c63_30_s <| aI @c63_28_s <| aI @c63_35_s <| aI @c63_34_s <| aI @c63_27_s <| aI @c63_26_s <| aI @c63_25_s <| aI @c63_24_s <| aI @c63_22_s <| aI @c63_21_s <| aI @c63_20_s <| aI @c63_19_s <| aI @c63_18_s <| aI @c63_17_s <| aI @c63_3_s <| aI @c63_40_s <| aI @c63_43_s <| aI @c63_42_s <| aI @c63_41_s <| aI @c63_39_s <| aI @c63_38_s <| aI @c63_37_s <| aI @c63_36_s <| aI @c63_2_s <| aI @c63_46_s <| aI @c63_45_s <| aI @c63_44_s <| aI @c63_1_s <| aI @c63_s <| @w3t_63
-- K63: ↓hk63
/-! ### strings.IndexRune -/
def V74 : Nat → Bool := fun i => [0, 1, 4, 5, 6, 7, 8, 9, 10, 11, 12, 13, 14, 15, 16, 26, 33, 43, 51, 64, 98, 108, 124, 139, 143, 156, 160, 171, 175, 176, 177, 181, 183].elem i
def block74:=@s_block Tryd.prog 187 V74
def cond74:=@s_cond Tryd.prog 187 V74
def condC74:=@s_condC Tryd.prog 187 V74
def drw74:=@s_drw Tryd.prog 187 V74
def loop74:=@s_loop Tryd.prog 187 V74
def reg74:=@s_reg Tryd.prog 187 V74
def rend74:=@s_rend Tryd.prog 187 V74
def scope74:=@s_scope Tryd.prog 187 V74
def seq74:=@s_seq Tryd.prog 187 V74
noncomputable def c74:Code:=(Tryd.f74.body.getD .skip)
noncomputable def c74_1:=cR c74
noncomputable def c74_2:=cL c74_1
noncomputable def c74_3:=cR c74_2
noncomputable def c74_4:=cL c74_3
noncomputable def c74_5:=cR c74_3
noncomputable def c74_6:=cR c74_5
noncomputable def c74_7:=cL c74_6
noncomputable def c74_8:=cR c74_7
noncomputable def c74_9:=cL c74_7
noncomputable def c74_10:=cR c74_9
noncomputable def c74_11:=cL c74_10
noncomputable def c74_12:=cL c74_11
noncomputable def c74_13:=cR c74_12
noncomputable def c74_14:=cR c74_13
noncomputable def c74_15:=cL c74_14
noncomputable def c74_16:=cR c74_15
noncomputable def c74_17:=cR c74_16
noncomputable def c74_18:=cL c74_17
noncomputable def c74_19:=cL c74_13
noncomputable def c74_20:=cR c74_6
noncomputable def c74_21:=cR c74_20
noncomputable def c74_22:=cL c74_21
noncomputable def c74_23:=cR c74_21
noncomputable def c74_24:=cL c74_23
noncomputable def c74_25:=cR c74_24
noncomputable def c74_26:=cR c74_25
noncomputable def c74_27:=cR c74_26
noncomputable def c74_28:=cR c74_27
noncomputable def c74_29:=cR c74_28
noncomputable def c74_30:=cR c74_29
noncomputable def c74_31:=cR c74_30
noncomputable def c74_32:=cR c74_31
noncomputable def c74_33:=cL c74_31
noncomputable def c74_34:=cL c74_33
noncomputable def c74_35:=cR c74_34
noncomputable def c74_36:=cR c74_35
noncomputable def c74_37:=cL c74_36
noncomputable def c74_38:=cR c74_33
noncomputable def c74_39:=cL c74_38
noncomputable def c74_40:=cR c74_39
noncomputable def c74_41:=cR c74_40
noncomputable def c74_42:=cR c74_41
noncomputable def c74_43:=cL c74_42
noncomputable def c74_44:=cL c74_43
noncomputable def c74_45:=cR c74_44
noncomputable def c74_46:=cR c74_45
noncomputable def c74_47:=cL c74_45
noncomputable def c74_48:=cL c74_47
noncomputable def c74_49:=cR c74_48
noncomputable def c74_50:=cL c74_49
noncomputable def c74_51:=cR c74_50
noncomputable def c74_52:=cL c74_50
noncomputable def c74_53:=cR c74_52
noncomputable def c74_54:=cL c74_53
noncomputable def c74_55:=cL c74_54
noncomputable def c74_56:=cR c74_55
noncomputable def c74_57:=cR c74_56
noncomputable def c74_58:=cL c74_56
noncomputable def c74_59:=cL c74_58
noncomputable def b74_31:List Row:=[(0, 0, 1, 147, true), (0, 0, 512, 148, true), (0, 0, 65536, 149, true), (6, 6, 535217884764734955396857238543560676143529984, 150, true), (9, 15, 802826827147102433095285857815341014215294976, 151, true), (0, 0, 128, 152, true), (0, 0, 256, 153, true), (0, 0, 65536, 154, true), (192, 192, 17126972312471518572699431633393941636592959488, 155, true), (288, 480, 25690458468707277859049147450090912454889439232, 156, true), (528, 1023, 47099173859296676074923436991833339500630638592, 157, true)]
noncomputable def c74_60:=cR c74_59
noncomputable def c74_61:=cL c74_55
noncomputable def c74_62:=cR c74_61
noncomputable def c74_63:=cL c74_44
noncomputable def c74_64:=cR c74_63
noncomputable def c74_65:=cL c74_29
noncomputable def c74_66:=cL c74_28
noncomputable def c74_67:=cL c74_66
noncomputable def c74_68:=cL c74_67
noncomputable def c74_69:=cR c74_68
noncomputable def c74_70:=cL c74_69
noncomputable def c74_71:=cL c74_70
noncomputable def c74_72:=cR c74_71
noncomputable def c74_73:=cR c74_72
noncomputable def c74_74:=cR c74_73
noncomputable def c74_75:=cR c74_74
noncomputable def c74_76:=cR c74_75
noncomputable def c74_77:=cR c74_76
noncomputable def c74_78:=cR c74_77
noncomputable def c74_79:=cL c74_73
noncomputable def c74_80:=cL c74_72
noncomputable def c74_81:=cR c74_80
noncomputable def c74_82:=cL c74_81
noncomputable def c74_83:=cL c74_82
noncomputable def c74_84:=cR c74_83
noncomputable def c74_85:=cR c74_84
noncomputable def c74_86:=cL c74_84
noncomputable def c74_87:=cL c74_86
noncomputable def b74_14:List Row:=[(0, 0, 1, 55, true), (0, 0, 512, 56, true), (0, 0, 4096, 57, true), (6, 6, 108086391056891904, 58, true), (9, 15, 162129586585337856, 59, true), (0, 0, 128, 60, true), (0, 0, 256, 61, true), (0, 0, 4096, 62, true), (192, 192, 3458764513820540928, 63, true), (288, 480, 5188146770730811392, 64, true), (528, 1023, 9511602413006487552, 65, true)]
noncomputable def c74_88:=cR c74_87
noncomputable def c74_89:=cL c74_83
noncomputable def c74_90:=cR c74_89
noncomputable def c74_91:=cL c74_71
noncomputable def b74_6:List Row:=[(0, 0, 1, 28, true), (0, 0, 512, 29, true), (3, 3, 402653184, 30, true), (0, 0, 128, 31, true), (0, 0, 256, 32, true), (24, 24, 3221225472, 33, true), (36, 63, 4831838208, 34, true)]
noncomputable def c74_92:=cR c74_91
noncomputable def c74_93:=cL c74_92
noncomputable def b74_7:List Row:=[(0, 0, 1, 35, true), (0, 0, 512, 36, true), (2, 2, 34359738368, 37, true), (5, 7, 85899345920, 38, true), (0, 0, 128, 39, true), (0, 0, 256, 40, true), (48, 48, 824633720832, 41, true), (72, 127, 1236950581248, 42, false), (255, 255, 2199023255552, 12, true)]
noncomputable def c74_94:=cR c74_93
noncomputable def c74_95:=cR c74_94
noncomputable def c74_96:=cL c74_94
noncomputable def c74_97:=cR c74_96
noncomputable def c74_98:=cL c74_97
noncomputable def c74_99:=cL c74_68
noncomputable def c74_100:=cR c74_99
def c74_4_s:=reg74 c74_4 .ret (fun N M G k e w =>
 M (e 0) fun t167 =>
 M (e 1) fun t168 =>
 N (xv (convert 21 5 t168)) w fun t169 w =>
 N (xcall (.func (.func 85) #[] #[]) [t167, t169]) w fun t170 w =>
 M t170 fun t4 =>
 k (Env.p e 4 t4) w)
def c74_8_s:=reg74 c74_8 .ret (fun N M G k e w =>
 M (.int .i64 (-1)) fun t4 =>
 k (Env.p e 4 t4) w)
def c74_18_s:=reg74 c74_18 .ret (fun N M G k e w =>
 M (e 5) fun t182 =>
 M t182 fun t4 =>
 k (Env.p e 4 t4) w)
def c74_17_s:=cond74 c74_17 .skip 181 c74_18
def c74_16_s:=reg74 c74_16 c74_17 (fun N M G k e w =>
 M (e 6) fun t180 =>
 N (xv (xbin .eql 21 (.tmp 180) (.const (.int .i32 65533)) t180 (.int .i32 65533))) w fun t181 w =>
 k (Env.p e 181 t181) w)
def c74_15_s:=reg74 c74_15 c74_16 (fun N M G k e w =>
 N (xv (Instr.extract (e 176) 1)) w fun t178 w =>
 N (xv (Instr.extract (e 176) 2)) w fun t179 w =>
 M t178 fun t5 =>
 M t179 fun t6 =>
 k (Env.p (Env.p e 5 t5) 6 t6) w)
def c74_14_s:=block74 c74_14 c74_15 10
def c74_19_s:=cond74 c74_19 (.exit 9) 177 .skip
def c74_13_s:=seq74 c74_13 c74_14 c74_19
def c74_12_s:=reg74 c74_12 c74_13 (fun N M G k e w =>
 N (xv (Instr.next (e 175) true 0)) w fun t176 w =>
 N (xv (Instr.extract t176 0)) w fun t177 w =>
 k (Env.p (Env.p e 176 t176) 177 t177) w)
def c74_11_s:=loop74 c74_11 c74_12
def c74_10_s:=block74 c74_10 c74_11 9
def c74_9_s:=reg74 c74_9 c74_10 (fun N M G k e w =>
 M (e 0) fun t174 =>
 N (xv (Instr.range 9 t174)) w fun t175 w =>
 k (Env.p e 175 t175) w)
def c74_7_s:=seq74 c74_7 c74_8 c74_9
def c74_22_s:=reg74 c74_22 .ret (fun N M G k e w =>
 M (.int .i64 (-1)) fun t4 =>
 k (Env.p e 4 t4) w)
def c74_32_s:=reg74 c74_32 .ret (fun N M G k e w =>
 M (.int .i64 (-1)) fun t4 =>
 k (Env.p e 4 t4) w)
def c74_37_s:=reg74 c74_37 .ret (fun N M G k e w =>
 M (e 9) fun t109 =>
 M (e 13) fun t110 =>
 N (xv (xbin .add 3 (.tmp 109) (.tmp 110) t109 t110)) w fun t111 w =>
 M (e 8) fun t112 =>
 N (xv (xbin .sub 3 (.tmp 111) (.tmp 112) t111 t112)) w fun t113 w =>
 M t113 fun t4 =>
 k (Env.p e 4 t4) w)
def c74_36_s:=cond74 c74_36 .skip 108 c74_37
def c74_35_s:=reg74 c74_35 c74_36 (fun N M G k e w =>
 M (e 13) fun t107 =>
 N (xv (xbin .geq 3 (.tmp 107) (.const (.int .i64 0)) t107 (.int .i64 0))) w fun t108 w =>
 k (Env.p e 108 t108) w)
def c74_34_s:=reg74 c74_34 c74_35 (fun N M G k e w =>
 M (e 0) fun t99 =>
 M (e 9) fun t100 =>
 M (e 8) fun t101 =>
 N (xv (xbin .sub 3 (.tmp 100) (.tmp 101) t100 t101)) w fun t102 w =>
 N (xv (Instr.sliceAt 9 t99 (some t102) none none)) w fun t103 w =>
 M (e 1) fun t104 =>
 N (xv (convert 21 9 t104)) w fun t105 w =>
 N (xcall (.func (.func 66) #[] #[]) [t103, t105]) w fun t106 w =>
 M t106 fun t13 =>
 k (Env.p e 13 t13) w)
def c74_46_s:=rend74 c74_46 (fun N M G k e w =>
 M (e 9) fun t125 =>
 N (xv (xbin .add 3 (.tmp 125) (.const (.int .i64 1)) t125 (.int .i64 1))) w fun t126 w =>
 M t126 fun t9 =>
 k (Env.p e 9 t9) w)
def c74_51_s:=reg74 c74_51 .ret (fun N M G k e w =>
 M (e 9) fun t157 =>
 M (e 8) fun t158 =>
 N (xv (xbin .sub 3 (.tmp 157) (.tmp 158) t157 t158)) w fun t159 w =>
 M t159 fun t4 =>
 k (Env.p e 4 t4) w)
def c74_57_s:=rend74 c74_57 (fun N M G k e w =>
 M (e 16) fun t144 =>
 N (xv (xbin .add 3 (.tmp 144) (.const (.int .i64 1)) t144 (.int .i64 1))) w fun t145 w =>
 M t145 fun t16 =>
 k (Env.p e 16 t16) w)
def c74_60_s:=cond74 c74_60 .skip 156 (.exit 6)
def c74_59_s:=drw74 c74_59 c74_60 b74_31 11 (fun N T M G H Y k e w =>
 M (e 0) fun t146 =>
 M (e 9) fun t147 =>
 M (e 16) fun t148 =>
 T (FrX none w) (xv (xbin .sub 3 (.tmp 147) (.tmp 148) t147 t148)) fun t149 =>
 T (FrX (some []) w) (xv (Instr.index 9 t146 t149)) fun t150 =>
 M (e 7) fun t151 =>
 M (e 8) fun t152 =>
 M (e 16) fun t153 =>
 T (FrX none w) (xv (xbin .sub 3 (.tmp 152) (.tmp 153) t152 t153)) fun t154 =>
 T (FrX (some []) w) (xv (Instr.index 9 t151 t154)) fun t155 =>
 T (FrX none w) (xv (xbin .neq 5 (.tmp 150) (.tmp 155) t150 t155)) fun t156 =>
 k (Env.p e 156 t156) w)
def c74_58_s:=block74 c74_58 c74_59 8
def c74_56_s:=seq74 c74_56 c74_57 c74_58
def c74_62_s:=cond74 c74_62 (.exit 7) 143 .skip
def c74_61_s:=reg74 c74_61 c74_62 (fun N M G k e w =>
 M (e 16) fun t140 =>
 M (e 7) fun t141 =>
 N (builtin Builtin.len #[9] 3 ([false]).toArray ([t141]).toArray) w fun t142 w =>
 N (xv (xbin .lss 3 (.tmp 140) (.tmp 142) t140 t142)) w fun t143 w =>
 k (Env.p e 143 t143) w)
def c74_55_s:=seq74 c74_55 c74_56 c74_61
def c74_54_s:=loop74 c74_54 c74_55
def c74_53_s:=block74 c74_53 c74_54 7
def c74_52_s:=reg74 c74_52 c74_53 (fun N M G k e w =>
 M (.int .i64 2) fun t16 =>
 k (Env.p e 16 t16) w)
def c74_50_s:=seq74 c74_50 c74_51 c74_52
def c74_49_s:=cond74 c74_49 .skip 139 c74_50
def c74_48_s:=reg74 c74_48 c74_49 (fun N M G k e w =>
 M (e 0) fun t127 =>
 M (e 9) fun t128 =>
 N (xv (Instr.index 9 t127 t128)) w fun t129 w =>
 M (e 14) fun t130 =>
 N (xv (xbin .eql 5 (.tmp 129) (.tmp 130) t129 t130)) w fun t131 w =>
 M t131 fun t132 =>
 G (isB t132 true) (fun K => M (e 0) fun v => K v w) (fun t133 w =>
 G (isB t132 true) (fun K => M (e 9) fun v => K v w) (fun t134 w =>
 G (isB t132 true) (fun K => N (xv (xbin .sub 3 (.tmp 134) (.const (.int .i64 1)) t134 (.int .i64 1))) w K) (fun t135 w =>
 G (isB t132 true) (fun K => N (xv (Instr.index 9 t133 t135)) w K) (fun t136 w =>
 G (isB t132 true) (fun K => M (e 15) fun v => K v w) (fun t137 w =>
 G (isB t132 true) (fun K => N (xv (xbin .eql 5 (.tmp 136) (.tmp 137) t136 t137)) w K) (fun t138 w =>
 N (xpick t132 t138 (.bool false)) w fun t139 w =>
 k (Env.p e 139 t139) w) w) w) w) w) w) w)
def c74_47_s:=block74 c74_47 c74_48 6
def c74_45_s:=seq74 c74_45 c74_46 c74_47
def c74_64_s:=cond74 c74_64 (.exit 5) 124 .skip
def c74_63_s:=reg74 c74_63 c74_64 (fun N M G k e w =>
 M (e 9) fun t121 =>
 M (e 0) fun t122 =>
 N (builtin Builtin.len #[9] 3 ([false]).toArray ([t122]).toArray) w fun t123 w =>
 N (xv (xbin .lss 3 (.tmp 121) (.tmp 123) t121 t123)) w fun t124 w =>
 k (Env.p e 124 t124) w)
def c74_44_s:=seq74 c74_44 c74_45 c74_63
def c74_43_s:=loop74 c74_43 c74_44
def c74_42_s:=block74 c74_42 c74_43 5
def c74_41_s:=seq74 c74_41 c74_42 (.label 2)
def c74_40_s:=reg74 c74_40 c74_41 (fun N M G k e w =>
 M (e 7) fun t117 =>
 M (e 8) fun t118 =>
 N (xv (xbin .sub 3 (.tmp 118) (.const (.int .i64 1)) t118 (.int .i64 1))) w fun t119 w =>
 N (xv (Instr.index 9 t117 t119)) w fun t120 w =>
 M t120 fun t15 =>
 k (Env.p e 15 t15) w)
def c74_39_s:=reg74 c74_39 c74_40 (fun N M G k e w =>
 M (e 7) fun t114 =>
 M (e 8) fun t115 =>
 N (xv (Instr.index 9 t114 t115)) w fun t116 w =>
 M t116 fun t14 =>
 k (Env.p e 14 t14) w)
def c74_38_s:=scope74 c74_38 c74_39
def c74_33_s:=condC74 c74_33 c74_38 (.bool true) c74_34
def c74_31_s:=seq74 c74_31 c74_32 c74_33
def c74_30_s:=seq74 c74_30 c74_31 (.label 1)
def c74_65_s:=reg74 c74_65 .ret (fun N M G k e w =>
 M (.int .i64 (-1)) fun t4 =>
 k (Env.p e 4 t4) w)
def c74_29_s:=seq74 c74_29 c74_30 c74_65
def c74_78_s:=cond74 c74_78 .skip 98 (.goto 1)
def c74_77_s:=reg74 c74_77 c74_78 (fun N M G k e w =>
 M (.bool true) fun t72 =>
 G (isB t72 true) (fun K => M (e 10) fun v => K v w) (fun t73 w =>
 G (isB t72 true) (fun K => M (e 9) fun v => K v w) (fun t74 w =>
 G (isB t72 true) (fun K => N (xcall (.func (.func 67) #[] #[]) [t74]) w K) (fun t75 w =>
 G (isB t72 true) (fun K => N (xv (xbin .gtr 3 (.tmp 73) (.tmp 75) t73 t75)) w K) (fun t76 w =>
 N (xpick t72 t76 (.bool false)) w fun t77 w =>
 M t77 fun t78 =>
 G (isB t78 true) (fun K => M (e 9) fun v => K v w) (fun t79 w =>
 G (isB t78 true) (fun K => M (e 0) fun v => K v w) (fun t80 w =>
 G (isB t78 true) (fun K => N (builtin Builtin.len #[9] 3 ([false]).toArray ([t80]).toArray) w K) (fun t81 w =>
 G (isB t78 true) (fun K => N (xv (xbin .lss 3 (.tmp 79) (.tmp 81) t79 t81)) w K) (fun t82 w =>
 N (xpick t78 t82 (.bool false)) w fun t83 w =>
 M t83 fun t84 =>
 G (isB t84 false) (fun K => M (.bool false) fun v => K v w) (fun t85 w =>
 G (isB t85 true) (fun K => M (e 10) fun v => K v w) (fun t86 w =>
 G (isB t85 true) (fun K => M (e 9) fun v => K v w) (fun t87 w =>
 G (isB t85 true) (fun K => N (xv (xbin .shr 3 (.tmp 87) (.const (.int .u64 4)) t87 (.int .u64 4))) w K) (fun t88 w =>
 G (isB t85 true) (fun K => N (xv (xbin .add 3 (.const (.int .i64 4)) (.tmp 88) (.int .i64 4) t88)) w K) (fun t89 w =>
 G (isB t85 true) (fun K => N (xv (xbin .geq 3 (.tmp 86) (.tmp 89) t86 t89)) w K) (fun t90 w =>
 G (isB t84 false) (fun K => N (xpick t85 t90 (.bool false)) w K) (fun t91 w =>
 G (isB t84 false) (fun K => M t91 fun v => K v w) (fun t92 w =>
 G (isB t92 true) (fun K => M (e 9) fun v => K v w) (fun t93 w =>
 G (isB t92 true) (fun K => M (e 0) fun v => K v w) (fun t94 w =>
 G (isB t92 true) (fun K => N (builtin Builtin.len #[9] 3 ([false]).toArray ([t94]).toArray) w K) (fun t95 w =>
 G (isB t92 true) (fun K => N (xv (xbin .lss 3 (.tmp 93) (.tmp 95) t93 t95)) w K) (fun t96 w =>
 G (isB t84 false) (fun K => N (xpick t92 t96 (.bool false)) w K) (fun t97 w =>
 N (xpick t84 (.bool true) t97) w fun t98 w =>
 k (Env.p e 98 t98) w) w) w) w) w) w) w) w) w) w) w) w) w) w) w) w) w) w) w) w) w) w)
def c74_76_s:=reg74 c74_76 c74_77 (fun N M G k e w =>
 M (e 9) fun t70 =>
 N (xv (xbin .add 3 (.tmp 70) (.const (.int .i64 1)) t70 (.int .i64 1))) w fun t71 w =>
 M t71 fun t9 =>
 k (Env.p e 9 t9) w)
def c74_75_s:=reg74 c74_75 c74_76 (fun N M G k e w =>
 M (e 10) fun t68 =>
 N (xv (xbin .add 3 (.tmp 68) (.const (.int .i64 1)) t68 (.int .i64 1))) w fun t69 w =>
 M t69 fun t10 =>
 k (Env.p e 10 t10) w)
def c74_74_s:=seq74 c74_74 c74_75 (.label 0)
def c74_79_s:=reg74 c74_79 .ret (fun N M G k e w =>
 M (e 9) fun t65 =>
 M (e 8) fun t66 =>
 N (xv (xbin .sub 3 (.tmp 65) (.tmp 66) t65 t66)) w fun t67 w =>
 M t67 fun t4 =>
 k (Env.p e 4 t4) w)
def c74_73_s:=seq74 c74_73 c74_74 c74_79
def c74_85_s:=rend74 c74_85 (fun N M G k e w =>
 M (e 12) fun t52 =>
 N (xv (xbin .add 3 (.tmp 52) (.const (.int .i64 1)) t52 (.int .i64 1))) w fun t53 w =>
 M t53 fun t12 =>
 k (Env.p e 12 t12) w)
def c74_88_s:=cond74 c74_88 .skip 64 (.goto 0)
def c74_87_s:=drw74 c74_87 c74_88 b74_14 11 (fun N T M G H Y k e w =>
 M (e 0) fun t54 =>
 M (e 9) fun t55 =>
 M (e 12) fun t56 =>
 T (FrX none w) (xv (xbin .sub 3 (.tmp 55) (.tmp 56) t55 t56)) fun t57 =>
 T (FrX (some []) w) (xv (Instr.index 9 t54 t57)) fun t58 =>
 M (e 7) fun t59 =>
 M (e 8) fun t60 =>
 M (e 12) fun t61 =>
 T (FrX none w) (xv (xbin .sub 3 (.tmp 60) (.tmp 61) t60 t61)) fun t62 =>
 T (FrX (some []) w) (xv (Instr.index 9 t59 t62)) fun t63 =>
 T (FrX none w) (xv (xbin .neq 5 (.tmp 58) (.tmp 63) t58 t63)) fun t64 =>
 k (Env.p e 64 t64) w)
def c74_86_s:=block74 c74_86 c74_87 4
def c74_84_s:=seq74 c74_84 c74_85 c74_86
def c74_90_s:=cond74 c74_90 (.exit 3) 51 .skip
def c74_89_s:=reg74 c74_89 c74_90 (fun N M G k e w =>
 M (e 12) fun t48 =>
 M (e 7) fun t49 =>
 N (builtin Builtin.len #[9] 3 ([false]).toArray ([t49]).toArray) w fun t50 w =>
 N (xv (xbin .lss 3 (.tmp 48) (.tmp 50) t48 t50)) w fun t51 w =>
 k (Env.p e 51 t51) w)
def c74_83_s:=seq74 c74_83 c74_84 c74_89
def c74_82_s:=loop74 c74_82 c74_83
def c74_81_s:=block74 c74_81 c74_82 3
def c74_80_s:=reg74 c74_80 c74_81 (fun N M G k e w =>
 M (.int .i64 1) fun t12 =>
 k (Env.p e 12 t12) w)
def c74_72_s:=seq74 c74_72 c74_73 c74_80
def c74_95_s:=rend74 c74_95 (fun N M G k e w =>
 M (e 9) fun t44 =>
 M (e 11) fun t45 =>
 N (xv (xbin .add 3 (.tmp 45) (.const (.int .i64 1)) t45 (.int .i64 1))) w fun t46 w =>
 N (xv (xbin .add 3 (.tmp 44) (.tmp 46) t44 t46)) w fun t47 w =>
 M t47 fun t9 =>
 k (Env.p e 9 t9) w)
def c74_98_s:=reg74 c74_98 .ret (fun N M G k e w =>
 M (.int .i64 (-1)) fun t4 =>
 k (Env.p e 4 t4) w)
def c74_97_s:=cond74 c74_97 .skip 43 c74_98
def c74_96_s:=reg74 c74_96 c74_97 (fun N M G k e w =>
 M (e 11) fun t42 =>
 N (xv (xbin .lss 3 (.tmp 42) (.const (.int .i64 0)) t42 (.int .i64 0))) w fun t43 w =>
 k (Env.p e 43 t43) w)
def c74_94_s:=seq74 c74_94 c74_95 c74_96
def c74_93_s:=drw74 c74_93 c74_94 b74_7 9 (fun N T M G H Y k e w =>
 M (e 0) fun t34 =>
 M (e 9) fun t35 =>
 T (FrX none w) (xv (xbin .add 3 (.tmp 35) (.const (.int .i64 1)) t35 (.int .i64 1))) fun t36 =>
 T (FrX none w) (xv (Instr.sliceAt 9 t34 (some t36) none none)) fun t37 =>
 M (e 7) fun t38 =>
 M (e 8) fun t39 =>
 T (FrX (some []) w) (xv (Instr.index 9 t38 t39)) fun t40 =>
 N (xcall (.func (.func 85) #[] #[]) [t37, t40]) w fun t41 w7 =>
 M t41 fun t11 =>
 k (Env.p e 11 t11) w7)
def c74_92_s:=cond74 c74_92 .skip 33 c74_93
def c74_91_s:=drw74 c74_91 c74_92 b74_6 7 (fun N T M G H Y k e w =>
 M (e 0) fun t27 =>
 M (e 9) fun t28 =>
 T (FrX (some []) w) (xv (Instr.index 9 t27 t28)) fun t29 =>
 M (e 7) fun t30 =>
 M (e 8) fun t31 =>
 T (FrX (some []) w) (xv (Instr.index 9 t30 t31)) fun t32 =>
 T (FrX none w) (xv (xbin .neq 5 (.tmp 29) (.tmp 32) t29 t32)) fun t33 =>
 k (Env.p e 33 t33) w)
def c74_71_s:=seq74 c74_71 c74_72 c74_91
def c74_70_s:=scope74 c74_70 c74_71
def c74_69_s:=block74 c74_69 c74_70 2
def c74_100_s:=cond74 c74_100 (.exit 1) 26 .skip
def c74_99_s:=reg74 c74_99 c74_100 (fun N M G k e w =>
 M (e 9) fun t23 =>
 M (e 0) fun t24 =>
 N (builtin Builtin.len #[9] 3 ([false]).toArray ([t24]).toArray) w fun t25 w =>
 N (xv (xbin .lss 3 (.tmp 23) (.tmp 25) t23 t25)) w fun t26 w =>
 k (Env.p e 26 t26) w)
def c74_68_s:=seq74 c74_68 c74_69 c74_99
def c74_67_s:=loop74 c74_67 c74_68
def c74_66_s:=block74 c74_66 c74_67 1
def c74_28_s:=seq74 c74_28 c74_29 c74_66
def c74_27_s:=reg74 c74_27 c74_28 (fun N M G k e w =>
 M (.int .i64 0) fun t10 =>
 k (Env.p e 10 t10) w)
def c74_26_s:=reg74 c74_26 c74_27 (fun N M G k e w =>
 M (e 8) fun t22 =>
 M t22 fun t9 =>
 k (Env.p e 9 t9) w)
def c74_25_s:=reg74 c74_25 c74_26 (fun N M G k e w =>
 M (e 7) fun t19 =>
 N (builtin Builtin.len #[9] 3 ([false]).toArray ([t19]).toArray) w fun t20 w =>
 N (xv (xbin .sub 3 (.tmp 20) (.const (.int .i64 1)) t20 (.int .i64 1))) w fun t21 w =>
 M t21 fun t8 =>
 k (Env.p e 8 t8) w)
def c74_24_s:=reg74 c74_24 c74_25 (fun N M G k e w =>
 M (e 1) fun t17 =>
 N (xv (convert 21 9 t17)) w fun t18 w =>
 M t18 fun t7 =>
 k (Env.p e 7 t7) w)
def c74_23_s:=scope74 c74_23 c74_24
def c74_21_s:=cond74 c74_21 c74_23 183 c74_22
def c74_20_s:=reg74 c74_20 c74_21 (fun N M G k e w =>
 M (e 1) fun t184 =>
 N (xcall (.func (.func 86) #[] #[]) [t184]) w fun t185 w =>
 N (xv (Op.unary .not t185)) w fun t186 w =>
 M t186 fun t183 =>
 k (Env.p e 183 t183) w)
def c74_6_s:=cond74 c74_6 c74_20 171 c74_7
def c74_5_s:=reg74 c74_5 c74_6 (fun N M G k e w =>
 M (e 1) fun t172 =>
 N (xv (xbin .eql 21 (.tmp 172) (.const (.int .i32 65533)) t172 (.int .i32 65533))) w fun t173 w =>
 M t173 fun t171 =>
 k (Env.p e 171 t171) w)
def c74_3_s:=cond74 c74_3 c74_5 160 c74_4
def c74_2_s:=reg74 c74_2 c74_3 (fun N M G k e w =>
 M (e 1) fun t161 =>
 N (xv (xbin .leq 21 (.const (.int .i32 0)) (.tmp 161) (.int .i32 0) t161)) w fun t162 w =>
 M t162 fun t163 =>
 G (isB t163 true) (fun K => M (e 1) fun v => K v w) (fun t164 w =>
 G (isB t163 true) (fun K => N (xv (xbin .lss 21 (.tmp 164) (.const (.int .i32 128)) t164 (.int .i32 128))) w K) (fun t165 w =>
 N (xpick t163 t165 (.bool false)) w fun t166 w =>
 M t166 fun t160 =>
 k (Env.p e 160 t160) w) w) w)
def c74_1_s:=block74 c74_1 c74_2 0
def c74_s:=reg74 c74 c74_1 (fun N M G k e w =>
 M (.int .i64 0) fun t4 =>
 k (Env.p e 4 t4) w)
theorem call74 {a0 a1 : Value} {w : World} {R : Value → World → Prop} (h : W3 Tryd.prog 187 V74 c74 (retQ Tryd.prog [.tmp 4] R) (argE [a0, a1]) w) : CallsN Tryd.prog 74 [a0, a1] w R :=
 callsN_of_W3 (c := c74) (rs := [.tmp 4]) V74 Tryd.ntmps74 (by rw [Tryd.results74]) mixed Tryd.func74 (by kernel_rfl) (by kernel_rfl) (by kernel_rfl) (by kernel_rfl) (by simp) h
def w3t_74:=w3t Tryd.prog 187 V74
def hk74 := aI @c74_4_s <| aI @c74_8_s <| aI @c74_18_s <| aI @c74_17_s <| aI @c74_16_s <| aI @c74_15_s <| aI @c74_14_s <| aI @c74_19_s <| aI @c74_13_s <| aI @c74_12_s <| aI @c74_11_s <| aI @c74_10_s <| aI @c74_9_s <| aI @c74_7_s <| aI @c74_22_s <| aI @c74_32_s <| aI @c74_37_s <| aI @c74_36_s <| aI @c74_35_s <| aI @c74_34_s <| aI @c74_46_s <| aI @c74_51_s <| aI @c74_57_s <| aI @c74_60_s <| aI @c74_59_s <| aI @c74_58_s <| aI @c74_56_s <| aI @c74_62_s <| aI @c74_61_s <| aI @c74_55_s <| aI @c74_54_s <| aI @c74_53_s <| aI @c74_52_s <| aI @c74_50_s <| aI @c74_49_s <| aI @c74_48_s <| aI @c74_47_s <| aI @c74_45_s <| aI @c74_64_s <| aI @c74_63_s <| aI @c74_44_s <| aI @c74_43_s <| aI @c74_42_s <| aI @c74_41_s <| aI @c74_40_s <| aI @c74_39_s <| aI @c74_38_s <| aI @c74_33_s <| aI @c74_31_s <| aI @c74_30_s <| aI @c74_65_s <| aI @c74_29_s <| aI @c74_78_s <| aI @c74_77_s <| aI @c74_76_s <| aI @c74_75_s <| aI @c74_74_s <| aI @c74_79_s <| aI @c74_73_s <| aI @c74_85_s <| aI @c74_88_s <| aI @c74_87_s <| aI @c74_86_s <| aI @c74_84_s <| aI @c74_90_s <| aI @c74_89_s <| aI @c74_83_s <| aI @c74_82_s <| aI @c74_81_s <| aI @c74_80_s <| aI @c74_72_s <| aI @c74_95_s <| aI @c74_98_s <| aI @c74_97_s <| aI @c74_96_s <| aI @c74_94_s <| aI @c74_93_s <| aI @c74_92_s <| aI @c74_91_s <| aI @c74_71_s <| aI @c74_70_s <| aI @c74_69_s <| aI @c74_100_s <| aI @c74_99_s <| aI @c74_68_s <| aI @c74_67_s <| aI @c74_66_s <| aI @c74_28_s <| aI @c74_27_s <| aI @c74_26_s <| aI @c74_25_s <| aI @c74_24_s <| aI @c74_23_s <| aI @c74_21_s <| aI @c74_20_s <| aI @c74_6_s <| aI @c74_5_s <| aI @c74_3_s <| aI @c74_2_s <| aI @c74_1_s <| aI @c74_s <| @w3t_74
-- K74: ↓hk74
/-! ### unicode/utf8.ValidRune -/
def V86 : Nat → Bool := fun i => [0, 2, 3, 10].elem i
def block86:=@s_block Tryd.prog 17 V86
def cond86:=@s_cond Tryd.prog 17 V86
def reg86:=@s_reg Tryd.prog 17 V86
def seq86:=@s_seq Tryd.prog 17 V86
noncomputable def c86:Code:=(Tryd.f86.body.getD .skip)
noncomputable def c86_1:=cR c86
noncomputable def c86_2:=cR c86_1
noncomputable def c86_3:=cL c86_1
noncomputable def c86_4:=cL c86_3
noncomputable def c86_5:=cR c86_4
noncomputable def c86_6:=cL c86_5
noncomputable def c86_7:=cR c86_5
noncomputable def c86_8:=cR c86_7
noncomputable def c86_9:=cL c86_8
def c86_2_s:=reg86 c86_2 .ret (fun N M G k e w =>
 M (.bool false) fun t2 =>
 k (Env.p e 2 t2) w)
def c86_6_s:=reg86 c86_6 .ret (fun N M G k e w =>
 M (.bool true) fun t2 =>
 k (Env.p e 2 t2) w)
def c86_9_s:=reg86 c86_9 .ret (fun N M G k e w =>
 M (.bool true) fun t2 =>
 k (Env.p e 2 t2) w)
def c86_8_s:=cond86 c86_8 .skip 10 c86_9
def c86_7_s:=reg86 c86_7 c86_8 (fun N M G k e w =>
 M (e 0) fun t11 =>
 N (xv (xbin .lss 21 (.const (.int .i32 57343)) (.tmp 11) (.int .i32 57343) t11)) w fun t12 w =>
 M t12 fun t13 =>
 G (isB t13 true) (fun K => M (e 0) fun v => K v w) (fun t14 w =>
 G (isB t13 true) (fun K => N (xv (xbin .leq 21 (.tmp 14) (.const (.int .i32 1114111)) t14 (.int .i32 1114111))) w K) (fun t15 w =>
 N (xpick t13 t15 (.bool false)) w fun t16 w =>
 M t16 fun t10 =>
 k (Env.p e 10 t10) w) w) w)
def c86_5_s:=cond86 c86_5 c86_7 3 c86_6
def c86_4_s:=reg86 c86_4 c86_5 (fun N M G k e w =>
 M (e 0) fun t4 =>
 N (xv (xbin .leq 21 (.const (.int .i32 0)) (.tmp 4) (.int .i32 0) t4)) w fun t5 w =>
 M t5 fun t6 =>
 G (isB t6 true) (fun K => M (e 0) fun v => K v w) (fun t7 w =>
 G (isB t6 true) (fun K => N (xv (xbin .lss 21 (.tmp 7) (.const (.int .i32 55296)) t7 (.int .i32 55296))) w K) (fun t8 w =>
 N (xpick t6 t8 (.bool false)) w fun t9 w =>
 M t9 fun t3 =>
 k (Env.p e 3 t3) w) w) w)
def c86_3_s:=block86 c86_3 c86_4 0
def c86_1_s:=seq86 c86_1 c86_2 c86_3
def c86_s:=reg86 c86 c86_1 (fun N M G k e w =>
 M (.bool false) fun t2 =>
 k (Env.p e 2 t2) w)
theorem call86 {a0 : Value} {w : World} {R : Value → World → Prop} (h : W3 Tryd.prog 17 V86 c86 (retQ Tryd.prog [.tmp 2] R) (argE [a0]) w) : CallsN Tryd.prog 86 [a0] w R :=
 callsN_of_W3 (c := c86) (rs := [.tmp 2]) V86 Tryd.ntmps86 (by rw [Tryd.results86]) mixed Tryd.func86 (by kernel_rfl) (by kernel_rfl) (by kernel_rfl) (by kernel_rfl) (by simp) h
def w3t_86:=w3t Tryd.prog 17 V86
def hk86 := aI @c86_2_s <| aI @c86_6_s <| aI @c86_9_s <| aI @c86_8_s <| aI @c86_7_s <| aI @c86_5_s <| aI @c86_4_s <| aI @c86_3_s <| aI @c86_1_s <| aI @c86_s <| @w3t_86
-- K86: ↓hk86
/-! ### strings.shouldUseASCIISet -/
def V75 : Nat → Bool := fun i => [0, 2].elem i
def reg75:=@s_reg Tryd.prog 5 V75
noncomputable def c75:Code:=(Tryd.f75.body.getD .skip)
noncomputable def c75_1:=cR c75
def c75_1_s:=reg75 c75_1 .ret (fun N M G k e w =>
 M (e 0) fun t3 =>
 N (xv (xbin .gtr 3 (.tmp 3) (.const (.int .i64 8)) t3 (.int .i64 8))) w fun t4 w =>
 M t4 fun t2 =>
 k (Env.p e 2 t2) w)
def c75_s:=reg75 c75 c75_1 (fun N M G k e w =>
 M (.bool false) fun t2 =>
 k (Env.p e 2 t2) w)
theorem call75 {a0 : Value} {w : World} {R : Value → World → Prop} (h : W3 Tryd.prog 5 V75 c75 (retQ Tryd.prog [.tmp 2] R) (argE [a0]) w) : CallsN Tryd.prog 75 [a0] w R :=
 callsN_of_W3 (c := c75) (rs := [.tmp 2]) V75 Tryd.ntmps75 (by rw [Tryd.results75]) mixed Tryd.func75 (by kernel_rfl) (by kernel_rfl) (by kernel_rfl) (by kernel_rfl) (by simp) h
def w3t_75:=w3t Tryd.prog 5 V75
def hk75 := aI @c75_1_s <| aI @c75_s <| @w3t_75
-- K75: ↓hk75
end
end Go.Proofs.YtbbjnplellanaaaDoor
