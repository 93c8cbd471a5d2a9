/- The equations of the code of some functions, written by the printer gen3.py: each is checked by the kernel. -/
import Derived.Test.YtbbjnplellanaaaDoorQ0
import Derived.Test.YtbbjnplellanaaaDoorCI
set_option linter.unusedVariables false
set_option linter.unusedSimpArgs false
set_option maxRecDepth 100000
namespace Go.Proofs.YtbbjnplellanaaaDoor
open Go.VW
open Go.Instr (loadAt storeAt fieldAt indexAt)
noncomputable section
set_option linter.defProp false
variable {N : NT} {T : T3T} {M : MT} {G : GT} {H : HT} {Y : YT} {k : KT} {Q : Exit → Env → World → Prop} {e el eg : Env} {w u0 u1 u2 u3 u4 u5 u6 u7 u8 u9 : World}
/-! ### vouch/vouchref21.Parse -/
def V10 : Nat → Bool := fun i => [0, 2, 3, 4, 5, 6, 7, 8, 9, 10, 13, 19, 36, 43].elem i
def block10:=@s_block Tryd.prog 51 V10
def cond10:=@s_cond Tryd.prog 51 V10
def loop10:=@s_loop Tryd.prog 51 V10
def reg10:=@s_reg Tryd.prog 51 V10
def rend10:=@s_rend Tryd.prog 51 V10
def seq10:=@s_seq Tryd.prog 51 V10
noncomputable def c10:Code:=(Tryd.f10.body.getD .skip)
noncomputable def c10_1:=cR c10
noncomputable def c10_2:=cR c10_1
noncomputable def c10_3:=cR c10_2
noncomputable def c10_4:=cR c10_3
noncomputable def c10_5:=cR c10_4
noncomputable def c10_6:=cL c10_4
noncomputable def c10_7:=cR c10_6
noncomputable def c10_8:=cL c10_7
noncomputable def c10_9:=cL c10_8
noncomputable def c10_10:=cR c10_9
noncomputable def c10_11:=cR c10_10
noncomputable def c10_12:=cL c10_10
noncomputable def c10_13:=cL c10_12
noncomputable def c10_14:=cR c10_13
noncomputable def c10_15:=cR c10_14
noncomputable def c10_16:=cR c10_15
noncomputable def c10_17:=cR c10_16
noncomputable def c10_18:=cL c10_16
noncomputable def c10_19:=cR c10_18
noncomputable def c10_20:=cL c10_19
noncomputable def c10_21:=cL c10_14
noncomputable def c10_22:=cR c10_21
noncomputable def c10_23:=cL c10_9
noncomputable def c10_24:=cR c10_23
noncomputable def c10_25:=cL c10_1
noncomputable def c10_26:=cR c10_25
noncomputable def c10_27:=cL c10_26
def c10_5_s:=reg10 c10_5 .ret (fun N M G k e w =>
 M (e 5) fun t50 =>
 M t50 fun t2 =>
 M (.int .i64 0) fun t3 =>
 M (.int .i64 0) fun t4 =>
 k (Env.p (Env.p (Env.p e 2 t2) 3 t3) 4 t4) w)
def c10_11_s:=rend10 c10_11 (fun N M G k e w =>
 M (e 7) fun t20 =>
 N (xv (xbin .add 3 (.tmp 20) (.const (.int .i64 1)) t20 (.int .i64 1))) w fun t21 w =>
 M t21 fun t7 =>
 k (Env.p e 7 t7) w)
def c10_17_s:=rend10 c10_17 (fun N M G k e w =>
 M (e 5) fun t46 =>
 N (xv (loadAt 33 (e 9))) w fun t47 w =>
 N (xv (Instr.buildSlice 23 1 ([(0, t47)]).toArray)) w fun t48 w =>
 N (builtin Builtin.append #[23, 23] 23 ([false, false]).toArray ([t46, t48]).toArray) w fun t49 w =>
 M t49 fun t5 =>
 k (Env.p e 5 t5) w)
def c10_20_s:=reg10 c10_20 .ret (fun N M G k e w =>
 M (e 7) fun t44 =>
 N (xv (xbin .add 3 (.tmp 44) (.const (.int .i64 1)) t44 (.int .i64 1))) w fun t45 w =>
 M (.slice none 0 0) fun t2 =>
 M t45 fun t3 =>
 M (.int .i64 60) fun t4 =>
 k (Env.p (Env.p (Env.p e 2 t2) 3 t3) 4 t4) w)
def c10_19_s:=cond10 c10_19 .skip 43 c10_20
def c10_18_s:=reg10 c10_18 c10_19 (fun N M G k e w =>
 M (e 10) fun t42 =>
 N (xv (Op.unary .not t42)) w fun t43 w =>
 k (Env.p e 43 t43) w)
def c10_16_s:=seq10 c10_16 c10_17 c10_18
def c10_15_s:=reg10 c10_15 c10_16 (fun N M G k e w =>
 M (e 8) fun t38 =>
 N (xcall (.func (.func 21) #[] #[]) [t38]) w fun t39 w =>
 M t39 fun t37 =>
 N (xv (Instr.extract t37 0)) w fun t40 w =>
 N (xv (Instr.extract t37 1)) w fun t41 w =>
 N (xv (Instr.alloc 33 true (.tuple #[]))) w fun t9 w =>
 N (xu (storeAt 33 t9 t40)) w fun _ w =>
 M t41 fun t10 =>
 k (Env.p (Env.p e 9 t9) 10 t10) w)
def c10_22_s:=cond10 c10_22 .skip 36 (.exit 1)
def c10_21_s:=reg10 c10_21 c10_22 (fun N M G k e w =>
 M (e 8) fun t27 =>
 N (builtin Builtin.len #[47] 3 ([false]).toArray ([t27]).toArray) w fun t28 w =>
 N (xv (xbin .eql 3 (.tmp 28) (.const (.int .i64 0)) t28 (.int .i64 0))) w fun t29 w =>
 M t29 fun t30 =>
 G (isB t30 false) (fun K => M (e 8) fun v => K v w) (fun t31 w =>
 G (isB t30 false) (fun K => N (xv (indexAt 47 t31 (.int .i64 0))) w K) (fun t32 w =>
 G (isB t30 false) (fun K => N (xv (loadAt 9 t32)) w K) (fun t33 w =>
 G (isB t30 false) (fun K => N (xv (Instr.index 9 t33 (.int .i64 0))) w K) (fun t34 w =>
 G (isB t30 false) (fun K => N (xv (xbin .eql 5 (.tmp 34) (.const (.int .u8 35)) t34 (.int .u8 35))) w K) (fun t35 w =>
 N (xpick t30 (.bool true) t35) w fun t36 w =>
 k (Env.p e 36 t36) w) w) w) w) w) w)
def c10_14_s:=seq10 c10_14 c10_15 c10_21
def c10_13_s:=reg10 c10_13 c10_14 (fun N M G k e w =>
 M (e 6) fun t22 =>
 M (e 7) fun t23 =>
 N (xv (indexAt 47 t22 t23)) w fun t24 w =>
 N (xv (loadAt 9 t24)) w fun t25 w =>
 N (xcall (.func (.func 20) #[] #[]) [t25]) w fun t26 w =>
 M t26 fun t8 =>
 k (Env.p e 8 t8) w)
def c10_12_s:=block10 c10_12 c10_13 1
def c10_10_s:=seq10 c10_10 c10_11 c10_12
def c10_24_s:=cond10 c10_24 (.exit 0) 19 .skip
def c10_23_s:=reg10 c10_23 c10_24 (fun N M G k e w =>
 M (e 7) fun t16 =>
 M (e 6) fun t17 =>
 N (builtin Builtin.len #[47] 3 ([false]).toArray ([t17]).toArray) w fun t18 w =>
 N (xv (xbin .lss 3 (.tmp 16) (.tmp 18) t16 t18)) w fun t19 w =>
 k (Env.p e 19 t19) w)
def c10_9_s:=seq10 c10_9 c10_10 c10_23
def c10_8_s:=loop10 c10_8 c10_9
def c10_7_s:=block10 c10_7 c10_8 0
def c10_6_s:=reg10 c10_6 c10_7 (fun N M G k e w =>
 M (.int .i64 0) fun t7 =>
 k (Env.p e 7 t7) w)
def c10_4_s:=seq10 c10_4 c10_5 c10_6
def c10_3_s:=reg10 c10_3 c10_4 (fun N M G k e w =>
 M (e 0) fun t14 =>
 N (xcall (.func (.func 19) #[] #[]) [t14, (.int .u8 10)]) w fun t15 w =>
 M t15 fun t6 =>
 k (Env.p e 6 t6) w)
def c10_2_s:=reg10 c10_2 c10_3 (fun N M G k e w =>
 M (.slice none 0 0) fun t5 =>
 k (Env.p e 5 t5) w)
def c10_27_s:=reg10 c10_27 .ret (fun N M G k e w =>
 M (.slice none 0 0) fun t2 =>
 M (.int .i64 0) fun t3 =>
 M (.int .i64 2) fun t4 =>
 k (Env.p (Env.p (Env.p e 2 t2) 3 t3) 4 t4) w)
def c10_26_s:=cond10 c10_26 .skip 13 c10_27
def c10_25_s:=reg10 c10_25 c10_26 (fun N M G k e w =>
 M (e 0) fun t11 =>
 N (builtin Builtin.len #[9] 3 ([false]).toArray ([t11]).toArray) w fun t12 w =>
 N (xv (xbin .gtr 3 (.tmp 12) (.const (.int .i64 65536)) t12 (.int .i64 65536))) w fun t13 w =>
 k (Env.p e 13 t13) w)
def c10_1_s:=seq10 c10_1 c10_2 c10_25
def c10_s:=reg10 c10 c10_1 (fun N M G k e w =>
 M (.slice none 0 0) fun t2 =>
 M (.int .i64 0) fun t3 =>
 M (.int .i64 0) fun t4 =>
 k (Env.p (Env.p (Env.p e 2 t2) 3 t3) 4 t4) w)
theorem call10 {a0 : Value} {w : World} {R : Value → World → Prop} (h : W3 Tryd.prog 51 V10 c10 (retQ Tryd.prog [.tmp 2, .tmp 3, .tmp 4] R) (argE [a0]) w) : CallsN Tryd.prog 10 [a0] w R :=
 callsN_of_W3 (c := c10) (rs := [.tmp 2, .tmp 3, .tmp 4]) V10 Tryd.ntmps10 (by rw [Tryd.results10]) mixed Tryd.func10 (by kernel_rfl) (by kernel_rfl) (by kernel_rfl) (by kernel_rfl) (by simp) h
def w3t_10:=w3t Tryd.prog 51 V10
def hk10 := aI @c10_5_s <| aI @c10_11_s <| aI @c10_17_s <| aI @c10_20_s <| aI @c10_19_s <| aI @c10_18_s <| aI @c10_16_s <| aI @c10_15_s <| aI @c10_22_s <| aI @c10_21_s <| aI @c10_14_s <| aI @c10_13_s <| aI @c10_12_s <| aI @c10_10_s <| aI @c10_24_s <| aI @c10_23_s <| aI @c10_9_s <| aI @c10_8_s <| aI @c10_7_s <| aI @c10_6_s <| aI @c10_4_s <| aI @c10_3_s <| aI @c10_2_s <| aI @c10_27_s <| aI @c10_26_s <| aI @c10_25_s <| aI @c10_1_s <| aI @c10_s <| @w3t_10
-- K10: ↓hk10
/-! ### vouch/vouchref21.Same -/
def V11 : Nat → Bool := fun i => [0, 1, 4, 5, 6, 7, 8, 13, 17, 83, 88, 101].elem i
def block11:=@s_block Tryd.prog 102 V11
def cond11:=@s_cond Tryd.prog 102 V11
def drw11:=@s_drw Tryd.prog 102 V11
def loop11:=@s_loop Tryd.prog 102 V11
def reg11:=@s_reg Tryd.prog 102 V11
def rend11:=@s_rend Tryd.prog 102 V11
def seq11:=@s_seq Tryd.prog 102 V11
noncomputable def c11:Code:=(Tryd.f11.body.getD .skip)
noncomputable def c11_1:=cR c11
noncomputable def c11_2:=cR c11_1
noncomputable def c11_3:=cR c11_2
noncomputable def c11_4:=cL c11_2
noncomputable def c11_5:=cR c11_4
noncomputable def c11_6:=cL c11_5
noncomputable def c11_7:=cL c11_6
noncomputable def c11_8:=cR c11_7
noncomputable def c11_9:=cR c11_8
noncomputable def c11_10:=cL c11_8
noncomputable def c11_11:=cL c11_10
noncomputable def b11_6:List Row:=[(0, 0, 1, 21, true), (0, 0, 32, 22, true), (3, 3, 3145728, 23, true), (4, 7, 4194304, 24, true), (0, 0, 2, 25, true), (0, 0, 32, 26, true), (48, 48, 50331648, 27, true), (64, 112, 67108864, 28, true), (0, 0, 0, 7, false), (0, 0, 0, 8, false), (783, 783, 8388672, 0, false), (2047, 2047, 134217856, 0, false)]
noncomputable def c11_12:=cR c11_11
noncomputable def c11_13:=cR c11_12
noncomputable def c11_14:=cR c11_13
noncomputable def c11_15:=cL c11_14
noncomputable def c11_16:=cL c11_15
noncomputable def c11_17:=cR c11_16
noncomputable def c11_18:=cR c11_17
noncomputable def c11_19:=cL c11_17
noncomputable def c11_20:=cL c11_19
noncomputable def b11_12:List Row:=[(0, 0, 64, 92, true), (1, 1, 2475880078570760549798248448, 93, true), (0, 0, 256, 94, true), (6, 7, 14855280471424563298789490688, 95, true), (8, 15, 19807040628566084398385987584, 96, true), (0, 0, 128, 97, true), (32, 32, 79228162514264337593543950336, 98, true), (0, 0, 256, 99, true), (192, 224, 475368975085586025561263702016, 100, true), (256, 480, 633825300114114700748351602688, 101, true), (528, 1023, 1307264681485361570293475180544, 102, true)]
noncomputable def c11_21:=cR c11_20
noncomputable def c11_22:=cL c11_21
noncomputable def c11_23:=cL c11_16
noncomputable def c11_24:=cR c11_23
noncomputable def c11_25:=cL c11_12
noncomputable def c11_26:=cR c11_25
noncomputable def c11_27:=cL c11_26
noncomputable def c11_28:=cL c11_7
noncomputable def c11_29:=cR c11_28
noncomputable def c11_30:=cL c11_1
noncomputable def c11_31:=cR c11_30
noncomputable def c11_32:=cL c11_31
def c11_3_s:=reg11 c11_3 .ret (fun N M G k e w =>
 M (.bool true) fun t4 =>
 k (Env.p e 4 t4) w)
def c11_9_s:=rend11 c11_9 (fun N M G k e w =>
 M (e 5) fun t18 =>
 N (xv (xbin .add 3 (.tmp 18) (.const (.int .i64 1)) t18 (.int .i64 1))) w fun t19 w =>
 M t19 fun t5 =>
 k (Env.p e 5 t5) w)
def c11_18_s:=rend11 c11_18 (fun N M G k e w =>
 M (e 8) fun t89 =>
 N (xv (xbin .add 3 (.tmp 89) (.const (.int .i64 1)) t89 (.int .i64 1))) w fun t90 w =>
 M t90 fun t8 =>
 k (Env.p e 8 t8) w)
def c11_22_s:=reg11 c11_22 .ret (fun N M G k e w =>
 M (.bool false) fun t4 =>
 k (Env.p e 4 t4) w)
def c11_21_s:=cond11 c11_21 .skip 101 c11_22
def c11_20_s:=drw11 c11_20 c11_21 b11_12 11 (fun N T M G H Y k e w =>
 T (FrX none w) (xv (fieldAt 33 (e 6) 6)) fun t91 =>
 T (FrX (some []) w) (xv (loadAt 31 t91)) fun t92 =>
 M (e 8) fun t93 =>
 T (FrX none w) (xv (indexAt 31 t92 t93)) fun t94 =>
 T (FrX (some []) w) (xv (loadAt 60 t94)) fun t95 =>
 T (FrX none w) (xv (fieldAt 33 (e 7) 6)) fun t96 =>
 T (FrX (some []) w) (xv (loadAt 31 t96)) fun t97 =>
 M (e 8) fun t98 =>
 T (FrX none w) (xv (indexAt 31 t97 t98)) fun t99 =>
 T (FrX (some []) w) (xv (loadAt 60 t99)) fun t100 =>
 T (FrX none w) (xv (xbin .neq 60 (.tmp 95) (.tmp 100) t95 t100)) fun t101 =>
 k (Env.p e 101 t101) w)
def c11_19_s:=block11 c11_19 c11_20 3
def c11_17_s:=seq11 c11_17 c11_18 c11_19
def c11_24_s:=cond11 c11_24 (.exit 2) 88 .skip
def c11_23_s:=reg11 c11_23 c11_24 (fun N M G k e w =>
 M (e 8) fun t84 =>
 N (xv (fieldAt 33 (e 6) 6)) w fun t85 w =>
 N (xv (loadAt 31 t85)) w fun t86 w =>
 N (builtin Builtin.len #[31] 3 ([false]).toArray ([t86]).toArray) w fun t87 w =>
 N (xv (xbin .lss 3 (.tmp 84) (.tmp 87) t84 t87)) w fun t88 w =>
 k (Env.p e 88 t88) w)
def c11_16_s:=seq11 c11_16 c11_17 c11_23
def c11_15_s:=loop11 c11_15 c11_16
def c11_14_s:=block11 c11_14 c11_15 2
def c11_13_s:=reg11 c11_13 c11_14 (fun N M G k e w =>
 M (.int .i64 0) fun t8 =>
 k (Env.p e 8 t8) w)
def c11_27_s:=reg11 c11_27 .ret (fun N M G k e w =>
 M (.bool false) fun t4 =>
 k (Env.p e 4 t4) w)
def c11_26_s:=cond11 c11_26 .skip 83 c11_27
def c11_25_s:=reg11 c11_25 c11_26 (fun N M G k e w =>
 N (xv (fieldAt 33 (e 6) 0)) w fun t28 w =>
 N (xv (loadAt 3 t28)) w fun t29 w =>
 N (xv (fieldAt 33 (e 7) 0)) w fun t30 w =>
 N (xv (loadAt 3 t30)) w fun t31 w =>
 N (xv (xbin .neq 3 (.tmp 29) (.tmp 31) t29 t31)) w fun t32 w =>
 M t32 fun t33 =>
 G (isB t33 false) (fun K => N (xv (fieldAt 33 (e 6) 1)) w K) (fun t34 w =>
 G (isB t33 false) (fun K => N (xv (loadAt 3 t34)) w K) (fun t35 w =>
 G (isB t33 false) (fun K => N (xv (fieldAt 33 (e 7) 1)) w K) (fun t36 w =>
 G (isB t33 false) (fun K => N (xv (loadAt 3 t36)) w K) (fun t37 w =>
 G (isB t33 false) (fun K => N (xv (xbin .neq 3 (.tmp 35) (.tmp 37) t35 t37)) w K) (fun t38 w =>
 N (xpick t33 (.bool true) t38) w fun t39 w =>
 M t39 fun t40 =>
 G (isB t40 false) (fun K => N (xv (fieldAt 33 (e 6) 2)) w K) (fun t41 w =>
 G (isB t40 false) (fun K => N (xv (loadAt 3 t41)) w K) (fun t42 w =>
 G (isB t40 false) (fun K => N (xv (fieldAt 33 (e 7) 2)) w K) (fun t43 w =>
 G (isB t40 false) (fun K => N (xv (loadAt 3 t43)) w K) (fun t44 w =>
 G (isB t40 false) (fun K => N (xv (xbin .neq 3 (.tmp 42) (.tmp 44) t42 t44)) w K) (fun t45 w =>
 N (xpick t40 (.bool true) t45) w fun t46 w =>
 M t46 fun t47 =>
 G (isB t47 false) (fun K => N (xv (fieldAt 33 (e 6) 3)) w K) (fun t48 w =>
 G (isB t47 false) (fun K => N (xv (loadAt 3 t48)) w K) (fun t49 w =>
 G (isB t47 false) (fun K => N (xv (fieldAt 33 (e 7) 3)) w K) (fun t50 w =>
 G (isB t47 false) (fun K => N (xv (loadAt 3 t50)) w K) (fun t51 w =>
 G (isB t47 false) (fun K => N (xv (xbin .neq 3 (.tmp 49) (.tmp 51) t49 t51)) w K) (fun t52 w =>
 N (xpick t47 (.bool true) t52) w fun t53 w =>
 M t53 fun t54 =>
 G (isB t54 false) (fun K => N (xv (fieldAt 33 (e 6) 4)) w K) (fun t55 w =>
 G (isB t54 false) (fun K => N (xv (loadAt 3 t55)) w K) (fun t56 w =>
 G (isB t54 false) (fun K => N (xv (fieldAt 33 (e 7) 4)) w K) (fun t57 w =>
 G (isB t54 false) (fun K => N (xv (loadAt 3 t57)) w K) (fun t58 w =>
 G (isB t54 false) (fun K => N (xv (xbin .neq 3 (.tmp 56) (.tmp 58) t56 t58)) w K) (fun t59 w =>
 N (xpick t54 (.bool true) t59) w fun t60 w =>
 M t60 fun t61 =>
 G (isB t61 false) (fun K => N (xv (fieldAt 33 (e 6) 5)) w K) (fun t62 w =>
 G (isB t61 false) (fun K => N (xv (loadAt 9 t62)) w K) (fun t63 w =>
 G (isB t61 false) (fun K => N (xv (fieldAt 33 (e 7) 5)) w K) (fun t64 w =>
 G (isB t61 false) (fun K => N (xv (loadAt 9 t64)) w K) (fun t65 w =>
 G (isB t61 false) (fun K => N (xv (xbin .neq 9 (.tmp 63) (.tmp 65) t63 t65)) w K) (fun t66 w =>
 N (xpick t61 (.bool true) t66) w fun t67 w =>
 M t67 fun t68 =>
 G (isB t68 false) (fun K => N (xv (fieldAt 33 (e 6) 7)) w K) (fun t69 w =>
 G (isB t68 false) (fun K => N (xv (loadAt 9 t69)) w K) (fun t70 w =>
 G (isB t68 false) (fun K => N (xv (fieldAt 33 (e 7) 7)) w K) (fun t71 w =>
 G (isB t68 false) (fun K => N (xv (loadAt 9 t71)) w K) (fun t72 w =>
 G (isB t68 false) (fun K => N (xv (xbin .neq 9 (.tmp 70) (.tmp 72) t70 t72)) w K) (fun t73 w =>
 N (xpick t68 (.bool true) t73) w fun t74 w =>
 M t74 fun t75 =>
 G (isB t75 false) (fun K => N (xv (fieldAt 33 (e 6) 6)) w K) (fun t76 w =>
 G (isB t75 false) (fun K => N (xv (loadAt 31 t76)) w K) (fun t77 w =>
 G (isB t75 false) (fun K => N (builtin Builtin.len #[31] 3 ([false]).toArray ([t77]).toArray) w K) (fun t78 w =>
 G (isB t75 false) (fun K => N (xv (fieldAt 33 (e 7) 6)) w K) (fun t79 w =>
 G (isB t75 false) (fun K => N (xv (loadAt 31 t79)) w K) (fun t80 w =>
 G (isB t75 false) (fun K => N (builtin Builtin.len #[31] 3 ([false]).toArray ([t80]).toArray) w K) (fun t81 w =>
 G (isB t75 false) (fun K => N (xv (xbin .neq 3 (.tmp 78) (.tmp 81) t78 t81)) w K) (fun t82 w =>
 N (xpick t75 (.bool true) t82) w fun t83 w =>
 k (Env.p e 83 t83) w) w) w) w) w) w) w) w) w) w) w) w) w) w) w) w) w) w) w) w) w) w) w) w) w) w) w) w) w) w) w) w) w) w) w) w) w) w)
def c11_12_s:=seq11 c11_12 c11_13 c11_25
def c11_11_s:=drw11 c11_11 c11_12 b11_6 12 (fun N T M G H Y k e w =>
 M (e 0) fun t20 =>
 M (e 5) fun t21 =>
 T (FrX none w) (xv (indexAt 23 t20 t21)) fun t22 =>
 T (FrX (some []) w) (xv (loadAt 33 t22)) fun t23 =>
 M (e 1) fun t24 =>
 M (e 5) fun t25 =>
 T (FrX none w) (xv (indexAt 23 t24 t25)) fun t26 =>
 T (FrX (some []) w) (xv (loadAt 33 t26)) fun t27 =>
 (N (xv (Instr.alloc 33 true (.tuple #[]))) w fun t6 w8 =>
 Y true (xv (loadAt 33 t26)) t27 w w8 ∧ (Y true (xv (loadAt 33 t22)) t23 w w8 ∧ (N (xv (Instr.alloc 33 true (.tuple #[]))) w8 fun t7 w9 =>
 Y true (xv (loadAt 33 t26)) t27 w w9 ∧ (Y true (xv (loadAt 33 t22)) t23 w w9 ∧ (N (xu (storeAt 33 t6 t23)) w9 fun _ w10 =>
 Y true (xv (loadAt 33 t26)) t27 w w10 ∧ (N (xu (storeAt 33 t7 t27)) w10 fun _ w11 =>
 k (Env.p (Env.p e 6 t6) 7 t7) w11)))))) ∧ (N (xv (Instr.alloc 33 true (.tuple #[]))) w fun t7 w9 =>
 Y true (xv (loadAt 33 t26)) t27 w w9 ∧ (Y true (xv (loadAt 33 t22)) t23 w w9 ∧ (N (xv (Instr.alloc 33 true (.tuple #[]))) w9 fun t6 w8 =>
 Y true (xv (loadAt 33 t26)) t27 w w8 ∧ (Y true (xv (loadAt 33 t22)) t23 w w8 ∧ (N (xu (storeAt 33 t6 t23)) w8 fun _ w10 =>
 Y true (xv (loadAt 33 t26)) t27 w w10 ∧ (N (xu (storeAt 33 t7 t27)) w10 fun _ w11 =>
 k (Env.p (Env.p e 7 t7) 6 t6) w11)))))))
def c11_10_s:=block11 c11_10 c11_11 1
def c11_8_s:=seq11 c11_8 c11_9 c11_10
def c11_29_s:=cond11 c11_29 (.exit 0) 17 .skip
def c11_28_s:=reg11 c11_28 c11_29 (fun N M G k e w =>
 M (e 5) fun t14 =>
 M (e 0) fun t15 =>
 N (builtin Builtin.len #[23] 3 ([false]).toArray ([t15]).toArray) w fun t16 w =>
 N (xv (xbin .lss 3 (.tmp 14) (.tmp 16) t14 t16)) w fun t17 w =>
 k (Env.p e 17 t17) w)
def c11_7_s:=seq11 c11_7 c11_8 c11_28
def c11_6_s:=loop11 c11_6 c11_7
def c11_5_s:=block11 c11_5 c11_6 0
def c11_4_s:=reg11 c11_4 c11_5 (fun N M G k e w =>
 M (.int .i64 0) fun t5 =>
 k (Env.p e 5 t5) w)
def c11_2_s:=seq11 c11_2 c11_3 c11_4
def c11_32_s:=reg11 c11_32 .ret (fun N M G k e w =>
 M (.bool false) fun t4 =>
 k (Env.p e 4 t4) w)
def c11_31_s:=cond11 c11_31 .skip 13 c11_32
def c11_30_s:=reg11 c11_30 c11_31 (fun N M G k e w =>
 M (e 0) fun t9 =>
 N (builtin Builtin.len #[23] 3 ([false]).toArray ([t9]).toArray) w fun t10 w =>
 M (e 1) fun t11 =>
 N (builtin Builtin.len #[23] 3 ([false]).toArray ([t11]).toArray) w fun t12 w =>
 N (xv (xbin .neq 3 (.tmp 10) (.tmp 12) t10 t12)) w fun t13 w =>
 k (Env.p e 13 t13) w)
def c11_1_s:=seq11 c11_1 c11_2 c11_30
def c11_s:=reg11 c11 c11_1 (fun N M G k e w =>
 M (.bool false) fun t4 =>
 k (Env.p e 4 t4) w)
theorem call11 {a0 a1 : Value} {w : World} {R : Value → World → Prop} (h : W3 Tryd.prog 102 V11 c11 (retQ Tryd.prog [.tmp 4] R) (argE [a0, a1]) w) : CallsN Tryd.prog 11 [a0, a1] w R :=
 callsN_of_W3 (c := c11) (rs := [.tmp 4]) V11 Tryd.ntmps11 (by rw [Tryd.results11]) mixed Tryd.func11 (by kernel_rfl) (by kernel_rfl) (by kernel_rfl) (by kernel_rfl) (by simp) h
def w3t_11:=w3t Tryd.prog 102 V11
def hk11 := aI @c11_3_s <| aI @c11_9_s <| aI @c11_18_s <| aI @c11_22_s <| aI @c11_21_s <| aI @c11_20_s <| aI @c11_19_s <| aI @c11_17_s <| aI @c11_24_s <| aI @c11_23_s <| aI @c11_16_s <| aI @c11_15_s <| aI @c11_14_s <| aI @c11_13_s <| aI @c11_27_s <| aI @c11_26_s <| aI @c11_25_s <| aI @c11_12_s <| aI @c11_11_s <| aI @c11_10_s <| aI @c11_8_s <| aI @c11_29_s <| aI @c11_28_s <| aI @c11_7_s <| aI @c11_6_s <| aI @c11_5_s <| aI @c11_4_s <| aI @c11_2_s <| aI @c11_32_s <| aI @c11_31_s <| aI @c11_30_s <| aI @c11_1_s <| aI @c11_s <| @w3t_11
-- K11: ↓hk11
/-! ### vouch/vouchref21.Split -/
def V19 : Nat → Bool := fun i => [0, 1, 4, 5, 6, 7, 11, 18].elem i
def block19:=@s_block Tryd.prog 34 V19
def cond19:=@s_cond Tryd.prog 34 V19
def loop19:=@s_loop Tryd.prog 34 V19
def reg19:=@s_reg Tryd.prog 34 V19
def rend19:=@s_rend Tryd.prog 34 V19
def seq19:=@s_seq Tryd.prog 34 V19
noncomputable def c19:Code:=(Tryd.f19.body.getD .skip)
noncomputable def c19_1:=cR c19
noncomputable def c19_2:=cR c19_1
noncomputable def c19_3:=cR c19_2
noncomputable def c19_4:=cR c19_3
noncomputable def c19_5:=cL c19_3
noncomputable def c19_6:=cR c19_5
noncomputable def c19_7:=cL c19_6
noncomputable def c19_8:=cL c19_7
noncomputable def c19_9:=cR c19_8
noncomputable def c19_10:=cR c19_9
noncomputable def c19_11:=cL c19_9
noncomputable def c19_12:=cL c19_11
noncomputable def c19_13:=cR c19_12
noncomputable def c19_14:=cL c19_13
noncomputable def c19_15:=cR c19_14
noncomputable def c19_16:=cL c19_8
noncomputable def c19_17:=cR c19_16
def c19_4_s:=reg19 c19_4 .ret (fun N M G k e w =>
 M (e 5) fun t28 =>
 M (e 0) fun t29 =>
 M (e 6) fun t30 =>
 N (xv (Instr.sliceAt 9 t29 (some t30) none none)) w fun t31 w =>
 N (xv (Instr.buildSlice 47 1 ([(0, t31)]).toArray)) w fun t32 w =>
 N (builtin Builtin.append #[47, 47] 47 ([false, false]).toArray ([t28, t32]).toArray) w fun t33 w =>
 M t33 fun t4 =>
 k (Env.p e 4 t4) w)
def c19_10_s:=rend19 c19_10 (fun N M G k e w =>
 M (e 7) fun t12 =>
 N (xv (xbin .add 3 (.tmp 12) (.const (.int .i64 1)) t12 (.int .i64 1))) w fun t13 w =>
 M t13 fun t7 =>
 k (Env.p e 7 t7) w)
def c19_15_s:=rend19 c19_15 (fun N M G k e w =>
 M (e 7) fun t26 =>
 N (xv (xbin .add 3 (.tmp 26) (.const (.int .i64 1)) t26 (.int .i64 1))) w fun t27 w =>
 M t27 fun t6 =>
 k (Env.p e 6 t6) w)
def c19_14_s:=reg19 c19_14 c19_15 (fun N M G k e w =>
 M (e 5) fun t19 =>
 M (e 0) fun t20 =>
 M (e 6) fun t21 =>
 M (e 7) fun t22 =>
 N (xv (Instr.sliceAt 9 t20 (some t21) (some t22) none)) w fun t23 w =>
 N (xv (Instr.buildSlice 47 1 ([(0, t23)]).toArray)) w fun t24 w =>
 N (builtin Builtin.append #[47, 47] 47 ([false, false]).toArray ([t19, t24]).toArray) w fun t25 w =>
 M t25 fun t5 =>
 k (Env.p e 5 t5) w)
def c19_13_s:=cond19 c19_13 .skip 18 c19_14
def c19_12_s:=reg19 c19_12 c19_13 (fun N M G k e w =>
 M (e 0) fun t14 =>
 M (e 7) fun t15 =>
 N (xv (Instr.index 9 t14 t15)) w fun t16 w =>
 M (e 1) fun t17 =>
 N (xv (xbin .eql 5 (.tmp 16) (.tmp 17) t16 t17)) w fun t18 w =>
 k (Env.p e 18 t18) w)
def c19_11_s:=block19 c19_11 c19_12 1
def c19_9_s:=seq19 c19_9 c19_10 c19_11
def c19_17_s:=cond19 c19_17 (.exit 0) 11 .skip
def c19_16_s:=reg19 c19_16 c19_17 (fun N M G k e w =>
 M (e 7) fun t8 =>
 M (e 0) fun t9 =>
 N (builtin Builtin.len #[9] 3 ([false]).toArray ([t9]).toArray) w fun t10 w =>
 N (xv (xbin .lss 3 (.tmp 8) (.tmp 10) t8 t10)) w fun t11 w =>
 k (Env.p e 11 t11) w)
def c19_8_s:=seq19 c19_8 c19_9 c19_16
def c19_7_s:=loop19 c19_7 c19_8
def c19_6_s:=block19 c19_6 c19_7 0
def c19_5_s:=reg19 c19_5 c19_6 (fun N M G k e w =>
 M (.int .i64 0) fun t7 =>
 k (Env.p e 7 t7) w)
def c19_3_s:=seq19 c19_3 c19_4 c19_5
def c19_2_s:=reg19 c19_2 c19_3 (fun N M G k e w =>
 M (.int .i64 0) fun t6 =>
 k (Env.p e 6 t6) w)
def c19_1_s:=reg19 c19_1 c19_2 (fun N M G k e w =>
 M (.slice none 0 0) fun t5 =>
 k (Env.p e 5 t5) w)
def c19_s:=reg19 c19 c19_1 (fun N M G k e w =>
 M (.slice none 0 0) fun t4 =>
 k (Env.p e 4 t4) w)
theorem call19 {a0 a1 : Value} {w : World} {R : Value → World → Prop} (h : W3 Tryd.prog 34 V19 c19 (retQ Tryd.prog [.tmp 4] R) (argE [a0, a1]) w) : CallsN Tryd.prog 19 [a0, a1] w R :=
 callsN_of_W3 (c := c19) (rs := [.tmp 4]) V19 Tryd.ntmps19 (by rw [Tryd.results19]) mixed Tryd.func19 (by kernel_rfl) (by kernel_rfl) (by kernel_rfl) (by kernel_rfl) (by simp) h
def w3t_19:=w3t Tryd.prog 34 V19
def hk19 := aI @c19_4_s <| aI @c19_10_s <| aI @c19_15_s <| aI @c19_14_s <| aI @c19_13_s <| aI @c19_12_s <| aI @c19_11_s <| aI @c19_9_s <| aI @c19_17_s <| aI @c19_16_s <| aI @c19_8_s <| aI @c19_7_s <| aI @c19_6_s <| aI @c19_5_s <| aI @c19_3_s <| aI @c19_2_s <| aI @c19_1_s <| aI @c19_s <| @w3t_19
-- K19: ↓hk19
/-! ### vouch/vouchref21.Words -/
def V20 : Nat → Bool := fun i => [0, 2, 3, 4, 5, 11, 18].elem i
def block20:=@s_block Tryd.prog 27 V20
def cond20:=@s_cond Tryd.prog 27 V20
def loop20:=@s_loop Tryd.prog 27 V20
def reg20:=@s_reg Tryd.prog 27 V20
def rend20:=@s_rend Tryd.prog 27 V20
def seq20:=@s_seq Tryd.prog 27 V20
noncomputable def c20:Code:=(Tryd.f20.body.getD .skip)
noncomputable def c20_1:=cR c20
noncomputable def c20_2:=cR c20_1
noncomputable def c20_3:=cR c20_2
noncomputable def c20_4:=cR c20_3
noncomputable def c20_5:=cL c20_3
noncomputable def c20_6:=cR c20_5
noncomputable def c20_7:=cL c20_6
noncomputable def c20_8:=cL c20_7
noncomputable def c20_9:=cR c20_8
noncomputable def c20_10:=cR c20_9
noncomputable def c20_11:=cL c20_9
noncomputable def c20_12:=cL c20_11
noncomputable def c20_13:=cR c20_12
noncomputable def c20_14:=cL c20_13
noncomputable def c20_15:=cL c20_8
noncomputable def c20_16:=cR c20_15
def c20_4_s:=reg20 c20_4 .ret (fun N M G k e w =>
 M (e 3) fun t26 =>
 M t26 fun t2 =>
 k (Env.p e 2 t2) w)
def c20_10_s:=rend20 c20_10 (fun N M G k e w =>
 M (e 5) fun t12 =>
 N (xv (xbin .add 3 (.tmp 12) (.const (.int .i64 1)) t12 (.int .i64 1))) w fun t13 w =>
 M t13 fun t5 =>
 k (Env.p e 5 t5) w)
def c20_14_s:=rend20 c20_14 (fun N M G k e w =>
 M (e 3) fun t19 =>
 M (e 4) fun t20 =>
 M (e 5) fun t21 =>
 N (xv (indexAt 47 t20 t21)) w fun t22 w =>
 N (xv (loadAt 9 t22)) w fun t23 w =>
 N (xv (Instr.buildSlice 47 1 ([(0, t23)]).toArray)) w fun t24 w =>
 N (builtin Builtin.append #[47, 47] 47 ([false, false]).toArray ([t19, t24]).toArray) w fun t25 w =>
 M t25 fun t3 =>
 k (Env.p e 3 t3) w)
def c20_13_s:=cond20 c20_13 .skip 18 c20_14
def c20_12_s:=reg20 c20_12 c20_13 (fun N M G k e w =>
 M (e 4) fun t14 =>
 M (e 5) fun t15 =>
 N (xv (indexAt 47 t14 t15)) w fun t16 w =>
 N (xv (loadAt 9 t16)) w fun t17 w =>
 N (xv (xbin .neq 9 (.tmp 17) (.const (.string ⟨#[]⟩)) t17 (.string ⟨#[]⟩))) w fun t18 w =>
 k (Env.p e 18 t18) w)
def c20_11_s:=block20 c20_11 c20_12 1
def c20_9_s:=seq20 c20_9 c20_10 c20_11
def c20_16_s:=cond20 c20_16 (.exit 0) 11 .skip
def c20_15_s:=reg20 c20_15 c20_16 (fun N M G k e w =>
 M (e 5) fun t8 =>
 M (e 4) fun t9 =>
 N (builtin Builtin.len #[47] 3 ([false]).toArray ([t9]).toArray) w fun t10 w =>
 N (xv (xbin .lss 3 (.tmp 8) (.tmp 10) t8 t10)) w fun t11 w =>
 k (Env.p e 11 t11) w)
def c20_8_s:=seq20 c20_8 c20_9 c20_15
def c20_7_s:=loop20 c20_7 c20_8
def c20_6_s:=block20 c20_6 c20_7 0
def c20_5_s:=reg20 c20_5 c20_6 (fun N M G k e w =>
 M (.int .i64 0) fun t5 =>
 k (Env.p e 5 t5) w)
def c20_3_s:=seq20 c20_3 c20_4 c20_5
def c20_2_s:=reg20 c20_2 c20_3 (fun N M G k e w =>
 M (e 0) fun t6 =>
 N (xcall (.func (.func 19) #[] #[]) [t6, (.int .u8 32)]) w fun t7 w =>
 M t7 fun t4 =>
 k (Env.p e 4 t4) w)
def c20_1_s:=reg20 c20_1 c20_2 (fun N M G k e w =>
 M (.slice none 0 0) fun t3 =>
 k (Env.p e 3 t3) w)
def c20_s:=reg20 c20 c20_1 (fun N M G k e w =>
 M (.slice none 0 0) fun t2 =>
 k (Env.p e 2 t2) w)
theorem call20 {a0 : Value} {w : World} {R : Value → World → Prop} (h : W3 Tryd.prog 27 V20 c20 (retQ Tryd.prog [.tmp 2] R) (argE [a0]) w) : CallsN Tryd.prog 20 [a0] w R :=
 callsN_of_W3 (c := c20) (rs := [.tmp 2]) V20 Tryd.ntmps20 (by rw [Tryd.results20]) mixed Tryd.func20 (by kernel_rfl) (by kernel_rfl) (by kernel_rfl) (by kernel_rfl) (by simp) h
def w3t_20:=w3t Tryd.prog 27 V20
def hk20 := aI @c20_4_s <| aI @c20_10_s <| aI @c20_14_s <| aI @c20_13_s <| aI @c20_12_s <| aI @c20_11_s <| aI @c20_9_s <| aI @c20_16_s <| aI @c20_15_s <| aI @c20_8_s <| aI @c20_7_s <| aI @c20_6_s <| aI @c20_5_s <| aI @c20_3_s <| aI @c20_2_s <| aI @c20_1_s <| aI @c20_s <| @w3t_20
-- K20: ↓hk20
/-! ### vouch/vouchref21.Step -/
def V21 : Nat → Bool := fun i => [0, 2, 3, 4, 5, 6, 7, 8, 9, 17, 21, 28, 38, 41, 44, 52, 58, 65, 66, 71, 83, 92, 97, 101].elem i
def block21:=@s_block Tryd.prog 115 V21
def cond21:=@s_cond Tryd.prog 115 V21
def loop21:=@s_loop Tryd.prog 115 V21
def reg21:=@s_reg Tryd.prog 115 V21
def rend21:=@s_rend Tryd.prog 115 V21
def seq21:=@s_seq Tryd.prog 115 V21
noncomputable def c21:Code:=(Tryd.f21.body.getD .skip)
noncomputable def c21_1:=cR c21
noncomputable def c21_2:=cR c21_1
noncomputable def c21_3:=cR c21_2
noncomputable def c21_4:=cR c21_3
noncomputable def c21_5:=cR c21_4
noncomputable def c21_6:=cR c21_5
noncomputable def c21_7:=cR c21_6
noncomputable def c21_8:=cR c21_7
noncomputable def c21_9:=cR c21_8
noncomputable def c21_10:=cL c21_8
noncomputable def c21_11:=cR c21_10
noncomputable def c21_12:=cL c21_11
noncomputable def c21_13:=cR c21_12
noncomputable def c21_14:=cL c21_13
noncomputable def c21_15:=cR c21_14
noncomputable def c21_16:=cL c21_14
noncomputable def c21_17:=cR c21_16
noncomputable def c21_18:=cL c21_17
noncomputable def c21_19:=cL c21_18
noncomputable def c21_20:=cR c21_19
noncomputable def c21_21:=cR c21_20
noncomputable def c21_22:=cL c21_20
noncomputable def c21_23:=cL c21_22
noncomputable def c21_24:=cR c21_23
noncomputable def c21_25:=cR c21_24
noncomputable def c21_26:=cL c21_24
noncomputable def c21_27:=cR c21_26
noncomputable def c21_28:=cL c21_27
noncomputable def c21_29:=cL c21_19
noncomputable def c21_30:=cR c21_29
noncomputable def c21_31:=cR c21_13
noncomputable def c21_32:=cR c21_31
noncomputable def c21_33:=cL c21_32
noncomputable def c21_34:=cR c21_33
noncomputable def c21_35:=cR c21_34
noncomputable def c21_36:=cL c21_34
noncomputable def c21_37:=cR c21_36
noncomputable def c21_38:=cL c21_37
noncomputable def c21_39:=cR c21_37
noncomputable def c21_40:=cL c21_33
noncomputable def c21_41:=cR c21_40
noncomputable def c21_42:=cL c21_41
noncomputable def c21_43:=cL c21_31
noncomputable def c21_44:=cR c21_43
noncomputable def c21_45:=cR c21_44
noncomputable def c21_46:=cL c21_7
noncomputable def c21_47:=cR c21_46
noncomputable def c21_48:=cL c21_47
noncomputable def c21_49:=cR c21_48
noncomputable def c21_50:=cL c21_49
noncomputable def c21_51:=cR c21_49
noncomputable def c21_52:=cR c21_51
noncomputable def c21_53:=cL c21_52
noncomputable def c21_54:=cR c21_52
noncomputable def c21_55:=cR c21_54
noncomputable def c21_56:=cL c21_55
noncomputable def c21_57:=cR c21_55
noncomputable def c21_58:=cL c21_54
noncomputable def c21_59:=cR c21_58
noncomputable def c21_60:=cR c21_59
noncomputable def c21_61:=cR c21_60
noncomputable def c21_62:=cR c21_61
noncomputable def c21_63:=cL c21_51
noncomputable def c21_64:=cR c21_63
noncomputable def c21_65:=cR c21_64
noncomputable def c21_66:=cR c21_65
noncomputable def c21_67:=cR c21_66
noncomputable def c21_68:=cL c21_48
noncomputable def c21_69:=cR c21_68
noncomputable def c21_70:=cR c21_69
noncomputable def c21_71:=cR c21_70
noncomputable def c21_72:=cR c21_71
noncomputable def c21_73:=cR c21_72
noncomputable def c21_74:=cR c21_73
noncomputable def c21_75:=cR c21_74
noncomputable def c21_76:=cR c21_75
noncomputable def c21_77:=cL c21_6
noncomputable def c21_78:=cR c21_77
noncomputable def c21_79:=cL c21_78
noncomputable def c21_80:=cL c21_4
noncomputable def c21_81:=cR c21_80
noncomputable def c21_82:=cL c21_81
noncomputable def c21_83:=cL c21_3
noncomputable def c21_84:=cR c21_83
noncomputable def c21_85:=cL c21_84
noncomputable def c21_86:=cL c21_2
noncomputable def c21_87:=cR c21_86
noncomputable def c21_88:=cL c21_87
def c21_9_s:=reg21 c21_9 .ret (fun N M G k e w =>
 N (xv (loadAt 33 (e 4))) w fun t111 w =>
 M (e 0) fun t112 =>
 N (builtin Builtin.len #[47] 3 ([false]).toArray ([t112]).toArray) w fun t113 w =>
 N (xv (xbin .eql 3 (.tmp 113) (.const (.int .i64 2)) t113 (.int .i64 2))) w fun t114 w =>
 N (xu (storeAt 33 (e 2) t111)) w fun _ w =>
 M t114 fun t3 =>
 k (Env.p e 3 t3) w)
def c21_15_s:=reg21 c21_15 .ret (fun N M G k e w =>
 N (xv (loadAt 33 (e 4))) w fun t91 w =>
 N (xu (storeAt 33 (e 2) t91)) w fun _ w =>
 M (.bool true) fun t3 =>
 k (Env.p e 3 t3) w)
def c21_21_s:=rend21 c21_21 (fun N M G k e w =>
 M (e 7) fun t72 =>
 N (xv (xbin .add 3 (.tmp 72) (.const (.int .i64 1)) t72 (.int .i64 1))) w fun t73 w =>
 M t73 fun t7 =>
 k (Env.p e 7 t7) w)
def c21_25_s:=rend21 c21_25 (fun N M G k e w =>
 N (xv (fieldAt 33 (e 4) 6)) w fun t85 w =>
 N (xv (loadAt 31 t85)) w fun t86 w =>
 N (xv (loadAt 60 (e 8))) w fun t87 w =>
 N (xv (Instr.buildSlice 31 1 ([(0, t87)]).toArray)) w fun t88 w =>
 N (builtin Builtin.append #[31, 31] 31 ([false, false]).toArray ([t86, t88]).toArray) w fun t89 w =>
 N (xv (fieldAt 33 (e 4) 6)) w fun t90 w =>
 N (xu (storeAt 31 t90 t89)) w fun _ w =>
 k e w)
def c21_28_s:=reg21 c21_28 .ret (fun N M G k e w =>
 N (xv (loadAt 33 (e 4))) w fun t84 w =>
 N (xu (storeAt 33 (e 2) t84)) w fun _ w =>
 M (.bool false) fun t3 =>
 k (Env.p e 3 t3) w)
def c21_27_s:=cond21 c21_27 .skip 83 c21_28
def c21_26_s:=reg21 c21_26 c21_27 (fun N M G k e w =>
 M (e 9) fun t82 =>
 N (xv (Op.unary .not t82)) w fun t83 w =>
 k (Env.p e 83 t83) w)
def c21_24_s:=seq21 c21_24 c21_25 c21_26
def c21_23_s:=reg21 c21_23 c21_24 (fun N M G k e w =>
 M (e 0) fun t75 =>
 M (e 7) fun t76 =>
 N (xv (indexAt 47 t75 t76)) w fun t77 w =>
 N (xv (loadAt 9 t77)) w fun t78 w =>
 N (xcall (.func (.func 40) #[] #[]) [t78]) w fun t79 w =>
 M t79 fun t74 =>
 N (xv (Instr.extract t74 0)) w fun t80 w =>
 N (xv (Instr.extract t74 1)) w fun t81 w =>
 N (xv (Instr.alloc 60 true (.tuple #[]))) w fun t8 w =>
 N (xu (storeAt 60 t8 t80)) w fun _ w =>
 M t81 fun t9 =>
 k (Env.p (Env.p e 8 t8) 9 t9) w)
def c21_22_s:=block21 c21_22 c21_23 3
def c21_20_s:=seq21 c21_20 c21_21 c21_22
def c21_30_s:=cond21 c21_30 (.exit 2) 71 .skip
def c21_29_s:=reg21 c21_29 c21_30 (fun N M G k e w =>
 M (e 7) fun t68 =>
 M (e 0) fun t69 =>
 N (builtin Builtin.len #[47] 3 ([false]).toArray ([t69]).toArray) w fun t70 w =>
 N (xv (xbin .lss 3 (.tmp 68) (.tmp 70) t68 t70)) w fun t71 w =>
 k (Env.p e 71 t71) w)
def c21_19_s:=seq21 c21_19 c21_20 c21_29
def c21_18_s:=loop21 c21_18 c21_19
def c21_17_s:=block21 c21_17 c21_18 2
def c21_16_s:=reg21 c21_16 c21_17 (fun N M G k e w =>
 M (.int .i64 2) fun t7 =>
 k (Env.p e 7 t7) w)
def c21_14_s:=seq21 c21_14 c21_15 c21_16
def c21_35_s:=reg21 c21_35 .ret (fun N M G k e w =>
 N (xv (loadAt 33 (e 4))) w fun t110 w =>
 N (xu (storeAt 33 (e 2) t110)) w fun _ w =>
 M (.bool true) fun t3 =>
 k (Env.p e 3 t3) w)
def c21_38_s:=rend21 c21_38 (fun N M G k e w =>
 M (e 0) fun t102 =>
 N (xv (indexAt 47 t102 (.int .i64 2))) w fun t103 w =>
 N (xv (loadAt 9 t103)) w fun t104 w =>
 N (xv (fieldAt 33 (e 4) 5)) w fun t105 w =>
 N (xu (storeAt 9 t105 t104)) w fun _ w =>
 k e w)
def c21_39_s:=rend21 c21_39 (fun N M G k e w =>
 M (e 0) fun t106 =>
 N (xv (indexAt 47 t106 (.int .i64 2))) w fun t107 w =>
 N (xv (loadAt 9 t107)) w fun t108 w =>
 N (xv (fieldAt 33 (e 4) 7)) w fun t109 w =>
 N (xu (storeAt 9 t109 t108)) w fun _ w =>
 k e w)
def c21_37_s:=cond21 c21_37 c21_39 101 c21_38
def c21_36_s:=reg21 c21_36 c21_37 (fun N M G k e w =>
 N (xv (fieldAt 33 (e 4) 0)) w fun t99 w =>
 N (xv (loadAt 3 t99)) w fun t100 w =>
 N (xv (xbin .eql 3 (.tmp 100) (.const (.int .i64 5)) t100 (.int .i64 5))) w fun t101 w =>
 k (Env.p e 101 t101) w)
def c21_34_s:=seq21 c21_34 c21_35 c21_36
def c21_42_s:=reg21 c21_42 .ret (fun N M G k e w =>
 N (xv (loadAt 33 (e 4))) w fun t98 w =>
 N (xu (storeAt 33 (e 2) t98)) w fun _ w =>
 M (.bool false) fun t3 =>
 k (Env.p e 3 t3) w)
def c21_41_s:=cond21 c21_41 .skip 97 c21_42
def c21_40_s:=reg21 c21_40 c21_41 (fun N M G k e w =>
 M (e 0) fun t95 =>
 N (builtin Builtin.len #[47] 3 ([false]).toArray ([t95]).toArray) w fun t96 w =>
 N (xv (xbin .neq 3 (.tmp 96) (.const (.int .i64 3)) t96 (.int .i64 3))) w fun t97 w =>
 k (Env.p e 97 t97) w)
def c21_33_s:=seq21 c21_33 c21_34 c21_40
def c21_32_s:=cond21 c21_32 .skip 92 c21_33
def c21_45_s:=rend21 c21_45 (fun N M G k e w =>
 N (xv (xbin .eql 3 (.tmp 65) (.const (.int .i64 16)) (e 65) (.int .i64 16))) w fun t94 w =>
 M t94 fun t92 =>
 k (Env.p e 92 t92) w)
def c21_44_s:=cond21 c21_44 c21_45 92 .skip
def c21_43_s:=reg21 c21_43 c21_44 (fun N M G k e w =>
 N (xv (xbin .eql 3 (.tmp 65) (.const (.int .i64 5)) (e 65) (.int .i64 5))) w fun t93 w =>
 M t93 fun t92 =>
 k (Env.p e 92 t92) w)
def c21_31_s:=seq21 c21_31 c21_32 c21_43
def c21_13_s:=cond21 c21_13 c21_31 66 c21_14
def c21_12_s:=reg21 c21_12 c21_13 (fun N M G k e w =>
 N (xv (xbin .eql 3 (.tmp 65) (.const (.int .i64 2)) (e 65) (.int .i64 2))) w fun t67 w =>
 M t67 fun t66 =>
 k (Env.p e 66 t66) w)
def c21_11_s:=block21 c21_11 c21_12 1
def c21_10_s:=reg21 c21_10 c21_11 (fun N M G k e w =>
 N (xv (fieldAt 33 (e 4) 0)) w fun t64 w =>
 N (xv (loadAt 3 t64)) w fun t65 w =>
 k (Env.p e 65 t65) w)
def c21_8_s:=seq21 c21_8 c21_9 c21_10
def c21_50_s:=rend21 c21_50 (fun N M G k e w =>
 M (e 5) fun t50 =>
 N (xv (fieldAt 33 (e 4) 1)) w fun t51 w =>
 N (xu (storeAt 3 t51 t50)) w fun _ w =>
 k e w)
def c21_53_s:=rend21 c21_53 (fun N M G k e w =>
 M (e 5) fun t56 =>
 N (xv (fieldAt 33 (e 4) 2)) w fun t57 w =>
 N (xu (storeAt 3 t57 t56)) w fun _ w =>
 k e w)
def c21_56_s:=rend21 c21_56 (fun N M G k e w =>
 M (e 5) fun t62 =>
 N (xv (fieldAt 33 (e 4) 4)) w fun t63 w =>
 N (xu (storeAt 3 t63 t62)) w fun _ w =>
 k e w)
def c21_57_s:=rend21 c21_57 (fun N M G k e w =>
 M (e 5) fun t42 =>
 N (xv (fieldAt 33 (e 4) 3)) w fun t43 w =>
 N (xu (storeAt 3 t43 t42)) w fun _ w =>
 k e w)
def c21_55_s:=cond21 c21_55 c21_57 58 c21_56
def c21_62_s:=rend21 c21_62 (fun N M G k e w =>
 N (xv (xbin .eql 3 (.tmp 41) (.const (.int .i64 10)) (e 41) (.int .i64 10))) w fun t61 w =>
 M t61 fun t58 =>
 k (Env.p e 58 t58) w)
def c21_61_s:=cond21 c21_61 c21_62 58 .skip
def c21_60_s:=reg21 c21_60 c21_61 (fun N M G k e w =>
 N (xv (xbin .eql 3 (.tmp 41) (.const (.int .i64 9)) (e 41) (.int .i64 9))) w fun t60 w =>
 M t60 fun t58 =>
 k (Env.p e 58 t58) w)
def c21_59_s:=cond21 c21_59 c21_60 58 .skip
def c21_58_s:=reg21 c21_58 c21_59 (fun N M G k e w =>
 N (xv (xbin .eql 3 (.tmp 41) (.const (.int .i64 8)) (e 41) (.int .i64 8))) w fun t59 w =>
 M t59 fun t58 =>
 k (Env.p e 58 t58) w)
def c21_54_s:=seq21 c21_54 c21_55 c21_58
def c21_52_s:=cond21 c21_52 c21_54 52 c21_53
def c21_67_s:=rend21 c21_67 (fun N M G k e w =>
 N (xv (xbin .eql 3 (.tmp 41) (.const (.int .i64 7)) (e 41) (.int .i64 7))) w fun t55 w =>
 M t55 fun t52 =>
 k (Env.p e 52 t52) w)
def c21_66_s:=cond21 c21_66 c21_67 52 .skip
def c21_65_s:=reg21 c21_65 c21_66 (fun N M G k e w =>
 N (xv (xbin .eql 3 (.tmp 41) (.const (.int .i64 6)) (e 41) (.int .i64 6))) w fun t54 w =>
 M t54 fun t52 =>
 k (Env.p e 52 t52) w)
def c21_64_s:=cond21 c21_64 c21_65 52 .skip
def c21_63_s:=reg21 c21_63 c21_64 (fun N M G k e w =>
 N (xv (xbin .eql 3 (.tmp 41) (.const (.int .i64 5)) (e 41) (.int .i64 5))) w fun t53 w =>
 M t53 fun t52 =>
 k (Env.p e 52 t52) w)
def c21_51_s:=seq21 c21_51 c21_52 c21_63
def c21_49_s:=cond21 c21_49 c21_51 44 c21_50
def c21_76_s:=rend21 c21_76 (fun N M G k e w =>
 N (xv (xbin .eql 3 (.tmp 41) (.const (.int .i64 16)) (e 41) (.int .i64 16))) w fun t49 w =>
 M t49 fun t44 =>
 k (Env.p e 44 t44) w)
def c21_75_s:=cond21 c21_75 c21_76 44 .skip
def c21_74_s:=reg21 c21_74 c21_75 (fun N M G k e w =>
 N (xv (xbin .eql 3 (.tmp 41) (.const (.int .i64 15)) (e 41) (.int .i64 15))) w fun t48 w =>
 M t48 fun t44 =>
 k (Env.p e 44 t44) w)
def c21_73_s:=cond21 c21_73 c21_74 44 .skip
def c21_72_s:=reg21 c21_72 c21_73 (fun N M G k e w =>
 N (xv (xbin .eql 3 (.tmp 41) (.const (.int .i64 4)) (e 41) (.int .i64 4))) w fun t47 w =>
 M t47 fun t44 =>
 k (Env.p e 44 t44) w)
def c21_71_s:=cond21 c21_71 c21_72 44 .skip
def c21_70_s:=reg21 c21_70 c21_71 (fun N M G k e w =>
 N (xv (xbin .eql 3 (.tmp 41) (.const (.int .i64 3)) (e 41) (.int .i64 3))) w fun t46 w =>
 M t46 fun t44 =>
 k (Env.p e 44 t44) w)
def c21_69_s:=cond21 c21_69 c21_70 44 .skip
def c21_68_s:=reg21 c21_68 c21_69 (fun N M G k e w =>
 N (xv (xbin .eql 3 (.tmp 41) (.const (.int .i64 2)) (e 41) (.int .i64 2))) w fun t45 w =>
 M t45 fun t44 =>
 k (Env.p e 44 t44) w)
def c21_48_s:=seq21 c21_48 c21_49 c21_68
def c21_47_s:=block21 c21_47 c21_48 0
def c21_46_s:=reg21 c21_46 c21_47 (fun N M G k e w =>
 N (xv (fieldAt 33 (e 4) 0)) w fun t40 w =>
 N (xv (loadAt 3 t40)) w fun t41 w =>
 k (Env.p e 41 t41) w)
def c21_7_s:=seq21 c21_7 c21_8 c21_46
def c21_79_s:=reg21 c21_79 .ret (fun N M G k e w =>
 N (xv (loadAt 33 (e 4))) w fun t39 w =>
 N (xu (storeAt 33 (e 2) t39)) w fun _ w =>
 M (.bool false) fun t3 =>
 k (Env.p e 3 t3) w)
def c21_78_s:=cond21 c21_78 .skip 38 c21_79
def c21_77_s:=reg21 c21_77 c21_78 (fun N M G k e w =>
 M (e 6) fun t37 =>
 N (xv (Op.unary .not t37)) w fun t38 w =>
 k (Env.p e 38 t38) w)
def c21_6_s:=seq21 c21_6 c21_7 c21_77
def c21_5_s:=reg21 c21_5 c21_6 (fun N M G k e w =>
 M (e 0) fun t31 =>
 N (xv (indexAt 47 t31 (.int .i64 1))) w fun t32 w =>
 N (xv (loadAt 9 t32)) w fun t33 w =>
 N (xcall (.func (.func 39) #[] #[]) [t33]) w fun t34 w =>
 M t34 fun t30 =>
 N (xv (Instr.extract t30 0)) w fun t35 w =>
 N (xv (Instr.extract t30 1)) w fun t36 w =>
 M t35 fun t5 =>
 M t36 fun t6 =>
 k (Env.p (Env.p e 5 t5) 6 t6) w)
def c21_82_s:=reg21 c21_82 .ret (fun N M G k e w =>
 N (xv (loadAt 33 (e 4))) w fun t29 w =>
 N (xu (storeAt 33 (e 2) t29)) w fun _ w =>
 M (.bool false) fun t3 =>
 k (Env.p e 3 t3) w)
def c21_81_s:=cond21 c21_81 .skip 28 c21_82
def c21_80_s:=reg21 c21_80 c21_81 (fun N M G k e w =>
 M (e 0) fun t26 =>
 N (builtin Builtin.len #[47] 3 ([false]).toArray ([t26]).toArray) w fun t27 w =>
 N (xv (xbin .lss 3 (.tmp 27) (.const (.int .i64 2)) t27 (.int .i64 2))) w fun t28 w =>
 k (Env.p e 28 t28) w)
def c21_4_s:=seq21 c21_4 c21_5 c21_80
def c21_85_s:=reg21 c21_85 .ret (fun N M G k e w =>
 N (xv (loadAt 33 (e 4))) w fun t22 w =>
 M (e 0) fun t23 =>
 N (builtin Builtin.len #[47] 3 ([false]).toArray ([t23]).toArray) w fun t24 w =>
 N (xv (xbin .eql 3 (.tmp 24) (.const (.int .i64 1)) t24 (.int .i64 1))) w fun t25 w =>
 N (xu (storeAt 33 (e 2) t22)) w fun _ w =>
 M t25 fun t3 =>
 k (Env.p e 3 t3) w)
def c21_84_s:=cond21 c21_84 .skip 21 c21_85
def c21_83_s:=reg21 c21_83 c21_84 (fun N M G k e w =>
 N (xv (fieldAt 33 (e 4) 0)) w fun t19 w =>
 N (xv (loadAt 3 t19)) w fun t20 w =>
 N (xv (xbin .eql 3 (.tmp 20) (.const (.int .i64 1)) t20 (.int .i64 1))) w fun t21 w =>
 k (Env.p e 21 t21) w)
def c21_3_s:=seq21 c21_3 c21_4 c21_83
def c21_88_s:=reg21 c21_88 .ret (fun N M G k e w =>
 N (xv (loadAt 33 (e 4))) w fun t18 w =>
 N (xu (storeAt 33 (e 2) t18)) w fun _ w =>
 M (.bool false) fun t3 =>
 k (Env.p e 3 t3) w)
def c21_87_s:=cond21 c21_87 .skip 17 c21_88
def c21_86_s:=reg21 c21_86 c21_87 (fun N M G k e w =>
 N (xv (fieldAt 33 (e 4) 0)) w fun t15 w =>
 N (xv (loadAt 3 t15)) w fun t16 w =>
 N (xv (xbin .eql 3 (.tmp 16) (.const (.int .i64 0)) t16 (.int .i64 0))) w fun t17 w =>
 k (Env.p e 17 t17) w)
def c21_2_s:=seq21 c21_2 c21_3 c21_86
def c21_1_s:=reg21 c21_1 c21_2 (fun N M G k e w =>
 M (e 0) fun t10 =>
 N (xv (indexAt 47 t10 (.int .i64 0))) w fun t11 w =>
 N (xv (loadAt 9 t11)) w fun t12 w =>
 N (xcall (.func (.func 38) #[] #[]) [t12]) w fun t13 w =>
 N (xv (Instr.build 33 ([(0, t13)]).toArray)) w fun t14 w =>
 N (xv (Instr.alloc 33 true (.tuple #[]))) w fun t4 w =>
 N (xu (storeAt 33 t4 t14)) w fun _ w =>
 k (Env.p e 4 t4) w)
def c21_s:=reg21 c21 c21_1 (fun N M G k e w =>
 N (xv (Instr.alloc 33 true (.tuple #[]))) w fun t2 w =>
 M (.bool false) fun t3 =>
 k (Env.p (Env.p e 2 t2) 3 t3) w)
theorem call21 {a0 : Value} {w : World} {R : Value → World → Prop} (h : W3 Tryd.prog 115 V21 c21 (retQ Tryd.prog [.cell 2 33, .tmp 3] R) (argE [a0]) w) : CallsN Tryd.prog 21 [a0] w R :=
 callsN_of_W3 (c := c21) (rs := [.cell 2 33, .tmp 3]) V21 Tryd.ntmps21 (by rw [Tryd.results21]) mixed Tryd.func21 (by kernel_rfl) (by kernel_rfl) (by kernel_rfl) (by kernel_rfl) (by simp) h
def w3t_21:=w3t Tryd.prog 115 V21
def hk21 := aI @c21_9_s <| aI @c21_15_s <| aI @c21_21_s <| aI @c21_25_s <| aI @c21_28_s <| aI @c21_27_s <| aI @c21_26_s <| aI @c21_24_s <| aI @c21_23_s <| aI @c21_22_s <| aI @c21_20_s <| aI @c21_30_s <| aI @c21_29_s <| aI @c21_19_s <| aI @c21_18_s <| aI @c21_17_s <| aI @c21_16_s <| aI @c21_14_s <| aI @c21_35_s <| aI @c21_38_s <| aI @c21_39_s <| aI @c21_37_s <| aI @c21_36_s <| aI @c21_34_s <| aI @c21_42_s <| aI @c21_41_s <| aI @c21_40_s <| aI @c21_33_s <| aI @c21_32_s <| aI @c21_45_s <| aI @c21_44_s <| aI @c21_43_s <| aI @c21_31_s <| aI @c21_13_s <| aI @c21_12_s <| aI @c21_11_s <| aI @c21_10_s <| aI @c21_8_s <| aI @c21_50_s <| aI @c21_53_s <| aI @c21_56_s <| aI @c21_57_s <| aI @c21_55_s <| aI @c21_62_s <| aI @c21_61_s <| aI @c21_60_s <| aI @c21_59_s <| aI @c21_58_s <| aI @c21_54_s <| aI @c21_52_s <| aI @c21_67_s <| aI @c21_66_s <| aI @c21_65_s <| aI @c21_64_s <| aI @c21_63_s <| aI @c21_51_s <| aI @c21_49_s <| aI @c21_76_s <| aI @c21_75_s <| aI @c21_74_s <| aI @c21_73_s <| aI @c21_72_s <| aI @c21_71_s <| aI @c21_70_s <| aI @c21_69_s <| aI @c21_68_s <| aI @c21_48_s <| aI @c21_47_s <| aI @c21_46_s <| aI @c21_7_s <| aI @c21_79_s <| aI @c21_78_s <| aI @c21_77_s <| aI @c21_6_s <| aI @c21_5_s <| aI @c21_82_s <| aI @c21_81_s <| aI @c21_80_s <| aI @c21_4_s <| aI @c21_85_s <| aI @c21_84_s <| aI @c21_83_s <| aI @c21_3_s <| aI @c21_88_s <| aI @c21_87_s <| aI @c21_86_s <| aI @c21_2_s <| aI @c21_1_s <| aI @c21_s <| @w3t_21
-- K21: ↓hk21
/-! ### vouch/vouchref21.kind -/
def V38 : Nat → Bool := fun i => [0, 2, 3, 4, 6, 8, 10, 12, 14, 16, 18, 20, 22, 24, 26, 28, 30, 32, 34].elem i
def block38:=@s_block Tryd.prog 36 V38
def cond38:=@s_cond Tryd.prog 36 V38
def reg38:=@s_reg Tryd.prog 36 V38
def seq38:=@s_seq Tryd.prog 36 V38
noncomputable def c38:Code:=(Tryd.f38.body.getD .skip)
noncomputable def c38_1:=cR c38
noncomputable def c38_2:=cR c38_1
noncomputable def c38_3:=cL c38_1
noncomputable def c38_4:=cR c38_3
noncomputable def c38_5:=cL c38_4
noncomputable def c38_6:=cR c38_5
noncomputable def c38_7:=cL c38_6
noncomputable def c38_8:=cR c38_6
noncomputable def c38_9:=cR c38_8
noncomputable def c38_10:=cL c38_9
noncomputable def c38_11:=cR c38_9
noncomputable def c38_12:=cR c38_11
noncomputable def c38_13:=cL c38_12
noncomputable def c38_14:=cR c38_12
noncomputable def c38_15:=cR c38_14
noncomputable def c38_16:=cL c38_15
noncomputable def c38_17:=cR c38_15
noncomputable def c38_18:=cR c38_17
noncomputable def c38_19:=cL c38_18
noncomputable def c38_20:=cR c38_18
noncomputable def c38_21:=cR c38_20
noncomputable def c38_22:=cL c38_21
noncomputable def c38_23:=cR c38_21
noncomputable def c38_24:=cR c38_23
noncomputable def c38_25:=cL c38_24
noncomputable def c38_26:=cR c38_24
noncomputable def c38_27:=cR c38_26
noncomputable def c38_28:=cL c38_27
noncomputable def c38_29:=cR c38_27
noncomputable def c38_30:=cR c38_29
noncomputable def c38_31:=cL c38_30
noncomputable def c38_32:=cR c38_30
noncomputable def c38_33:=cR c38_32
noncomputable def c38_34:=cL c38_33
noncomputable def c38_35:=cR c38_33
noncomputable def c38_36:=cR c38_35
noncomputable def c38_37:=cL c38_36
noncomputable def c38_38:=cR c38_36
noncomputable def c38_39:=cR c38_38
noncomputable def c38_40:=cL c38_39
noncomputable def c38_41:=cR c38_39
noncomputable def c38_42:=cR c38_41
noncomputable def c38_43:=cL c38_42
noncomputable def c38_44:=cR c38_42
noncomputable def c38_45:=cR c38_44
noncomputable def c38_46:=cL c38_45
noncomputable def c38_47:=cR c38_45
noncomputable def c38_48:=cR c38_47
noncomputable def c38_49:=cL c38_48
noncomputable def c38_50:=cR c38_48
noncomputable def c38_51:=cR c38_50
noncomputable def c38_52:=cL c38_51
def c38_2_s:=reg38 c38_2 .ret (fun N M G k e w =>
 M (.int .i64 0) fun t2 =>
 k (Env.p e 2 t2) w)
def c38_7_s:=reg38 c38_7 .ret (fun N M G k e w =>
 M (.int .i64 1) fun t2 =>
 k (Env.p e 2 t2) w)
def c38_10_s:=reg38 c38_10 .ret (fun N M G k e w =>
 M (.int .i64 2) fun t2 =>
 k (Env.p e 2 t2) w)
def c38_13_s:=reg38 c38_13 .ret (fun N M G k e w =>
 M (.int .i64 3) fun t2 =>
 k (Env.p e 2 t2) w)
def c38_16_s:=reg38 c38_16 .ret (fun N M G k e w =>
 M (.int .i64 4) fun t2 =>
 k (Env.p e 2 t2) w)
def c38_19_s:=reg38 c38_19 .ret (fun N M G k e w =>
 M (.int .i64 5) fun t2 =>
 k (Env.p e 2 t2) w)
def c38_22_s:=reg38 c38_22 .ret (fun N M G k e w =>
 M (.int .i64 6) fun t2 =>
 k (Env.p e 2 t2) w)
def c38_25_s:=reg38 c38_25 .ret (fun N M G k e w =>
 M (.int .i64 7) fun t2 =>
 k (Env.p e 2 t2) w)
def c38_28_s:=reg38 c38_28 .ret (fun N M G k e w =>
 M (.int .i64 8) fun t2 =>
 k (Env.p e 2 t2) w)
def c38_31_s:=reg38 c38_31 .ret (fun N M G k e w =>
 M (.int .i64 9) fun t2 =>
 k (Env.p e 2 t2) w)
def c38_34_s:=reg38 c38_34 .ret (fun N M G k e w =>
 M (.int .i64 10) fun t2 =>
 k (Env.p e 2 t2) w)
def c38_37_s:=reg38 c38_37 .ret (fun N M G k e w =>
 M (.int .i64 11) fun t2 =>
 k (Env.p e 2 t2) w)
def c38_40_s:=reg38 c38_40 .ret (fun N M G k e w =>
 M (.int .i64 12) fun t2 =>
 k (Env.p e 2 t2) w)
def c38_43_s:=reg38 c38_43 .ret (fun N M G k e w =>
 M (.int .i64 13) fun t2 =>
 k (Env.p e 2 t2) w)
def c38_46_s:=reg38 c38_46 .ret (fun N M G k e w =>
 M (.int .i64 14) fun t2 =>
 k (Env.p e 2 t2) w)
def c38_49_s:=reg38 c38_49 .ret (fun N M G k e w =>
 M (.int .i64 15) fun t2 =>
 k (Env.p e 2 t2) w)
def c38_52_s:=reg38 c38_52 .ret (fun N M G k e w =>
 M (.int .i64 16) fun t2 =>
 k (Env.p e 2 t2) w)
def c38_51_s:=cond38 c38_51 .skip 34 c38_52
def c38_50_s:=reg38 c38_50 c38_51 (fun N M G k e w =>
 N (xv (xbin .eql 9 (.tmp 3) (.const (.string ⟨#[106, 111, 105, 110]⟩)) (e 3) (.string ⟨#[106, 111, 105, 110]⟩))) w fun t35 w =>
 M t35 fun t34 =>
 k (Env.p e 34 t34) w)
def c38_48_s:=cond38 c38_48 c38_50 32 c38_49
def c38_47_s:=reg38 c38_47 c38_48 (fun N M G k e w =>
 N (xv (xbin .eql 9 (.tmp 3) (.const (.string ⟨#[116, 111, 107, 101, 110]⟩)) (e 3) (.string ⟨#[116, 111, 107, 101, 110]⟩))) w fun t33 w =>
 M t33 fun t32 =>
 k (Env.p e 32 t32) w)
def c38_45_s:=cond38 c38_45 c38_47 30 c38_46
def c38_44_s:=reg38 c38_44 c38_45 (fun N M G k e w =>
 N (xv (xbin .eql 9 (.tmp 3) (.const (.string ⟨#[115, 113, 117, 101, 101, 122, 101]⟩)) (e 3) (.string ⟨#[115, 113, 117, 101, 101, 122, 101]⟩))) w fun t31 w =>
 M t31 fun t30 =>
 k (Env.p e 30 t30) w)
def c38_42_s:=cond38 c38_42 c38_44 28 c38_43
def c38_41_s:=reg38 c38_41 c38_42 (fun N M G k e w =>
 N (xv (xbin .eql 9 (.tmp 3) (.const (.string ⟨#[110, 117, 100, 103, 101]⟩)) (e 3) (.string ⟨#[110, 117, 100, 103, 101]⟩))) w fun t29 w =>
 M t29 fun t28 =>
 k (Env.p e 28 t28) w)
def c38_39_s:=cond38 c38_39 c38_41 26 c38_40
def c38_38_s:=reg38 c38_38 c38_39 (fun N M G k e w =>
 N (xv (xbin .eql 9 (.tmp 3) (.const (.string ⟨#[114, 101, 115, 116, 97, 114, 116]⟩)) (e 3) (.string ⟨#[114, 101, 115, 116, 97, 114, 116]⟩))) w fun t27 w =>
 M t27 fun t26 =>
 k (Env.p e 26 t26) w)
def c38_36_s:=cond38 c38_36 c38_38 24 c38_37
def c38_35_s:=reg38 c38_35 c38_36 (fun N M G k e w =>
 N (xv (xbin .eql 9 (.tmp 3) (.const (.string ⟨#[99, 114, 97, 115, 104]⟩)) (e 3) (.string ⟨#[99, 114, 97, 115, 104]⟩))) w fun t25 w =>
 M t25 fun t24 =>
 k (Env.p e 24 t24) w)
def c38_33_s:=cond38 c38_33 c38_35 22 c38_34
def c38_32_s:=reg38 c38_32 c38_33 (fun N M G k e w =>
 N (xv (xbin .eql 9 (.tmp 3) (.const (.string ⟨#[100, 111, 117, 98, 108, 101]⟩)) (e 3) (.string ⟨#[100, 111, 117, 98, 108, 101]⟩))) w fun t23 w =>
 M t23 fun t22 =>
 k (Env.p e 22 t22) w)
def c38_30_s:=cond38 c38_30 c38_32 20 c38_31
def c38_29_s:=reg38 c38_29 c38_30 (fun N M G k e w =>
 N (xv (xbin .eql 9 (.tmp 3) (.const (.string ⟨#[100, 114, 111, 112]⟩)) (e 3) (.string ⟨#[100, 114, 111, 112]⟩))) w fun t21 w =>
 M t21 fun t20 =>
 k (Env.p e 20 t20) w)
def c38_27_s:=cond38 c38_27 c38_29 18 c38_28
def c38_26_s:=reg38 c38_26 c38_27 (fun N M G k e w =>
 N (xv (xbin .eql 9 (.tmp 3) (.const (.string ⟨#[100, 101, 108, 105, 118, 101, 114]⟩)) (e 3) (.string ⟨#[100, 101, 108, 105, 118, 101, 114]⟩))) w fun t19 w =>
 M t19 fun t18 =>
 k (Env.p e 18 t18) w)
def c38_24_s:=cond38 c38_24 c38_26 16 c38_25
def c38_23_s:=reg38 c38_23 c38_24 (fun N M G k e w =>
 N (xv (xbin .eql 9 (.tmp 3) (.const (.string ⟨#[102, 105, 110, 105, 115, 104]⟩)) (e 3) (.string ⟨#[102, 105, 110, 105, 115, 104]⟩))) w fun t17 w =>
 M t17 fun t16 =>
 k (Env.p e 16 t16) w)
def c38_21_s:=cond38 c38_21 c38_23 14 c38_22
def c38_20_s:=reg38 c38_20 c38_21 (fun N M G k e w =>
 N (xv (xbin .eql 9 (.tmp 3) (.const (.string ⟨#[114, 101, 116, 114, 121]⟩)) (e 3) (.string ⟨#[114, 101, 116, 114, 121]⟩))) w fun t15 w =>
 M t15 fun t14 =>
 k (Env.p e 14 t14) w)
def c38_18_s:=cond38 c38_18 c38_20 12 c38_19
def c38_17_s:=reg38 c38_17 c38_18 (fun N M G k e w =>
 N (xv (xbin .eql 9 (.tmp 3) (.const (.string ⟨#[114, 101, 97, 100]⟩)) (e 3) (.string ⟨#[114, 101, 97, 100]⟩))) w fun t13 w =>
 M t13 fun t12 =>
 k (Env.p e 12 t12) w)
def c38_15_s:=cond38 c38_15 c38_17 10 c38_16
def c38_14_s:=reg38 c38_14 c38_15 (fun N M G k e w =>
 N (xv (xbin .eql 9 (.tmp 3) (.const (.string ⟨#[98, 101, 103, 105, 110]⟩)) (e 3) (.string ⟨#[98, 101, 103, 105, 110]⟩))) w fun t11 w =>
 M t11 fun t10 =>
 k (Env.p e 10 t10) w)
def c38_12_s:=cond38 c38_12 c38_14 8 c38_13
def c38_11_s:=reg38 c38_11 c38_12 (fun N M G k e w =>
 N (xv (xbin .eql 9 (.tmp 3) (.const (.string ⟨#[97, 103, 97, 105, 110]⟩)) (e 3) (.string ⟨#[97, 103, 97, 105, 110]⟩))) w fun t9 w =>
 M t9 fun t8 =>
 k (Env.p e 8 t8) w)
def c38_9_s:=cond38 c38_9 c38_11 6 c38_10
def c38_8_s:=reg38 c38_8 c38_9 (fun N M G k e w =>
 N (xv (xbin .eql 9 (.tmp 3) (.const (.string ⟨#[99, 111, 109, 109, 105, 116]⟩)) (e 3) (.string ⟨#[99, 111, 109, 109, 105, 116]⟩))) w fun t7 w =>
 M t7 fun t6 =>
 k (Env.p e 6 t6) w)
def c38_6_s:=cond38 c38_6 c38_8 4 c38_7
def c38_5_s:=reg38 c38_5 c38_6 (fun N M G k e w =>
 N (xv (xbin .eql 9 (.tmp 3) (.const (.string ⟨#[111, 112, 101, 110]⟩)) (e 3) (.string ⟨#[111, 112, 101, 110]⟩))) w fun t5 w =>
 M t5 fun t4 =>
 k (Env.p e 4 t4) w)
def c38_4_s:=block38 c38_4 c38_5 0
def c38_3_s:=reg38 c38_3 c38_4 (fun N M G k e w =>
 M (e 0) fun t3 =>
 k (Env.p e 3 t3) w)
def c38_1_s:=seq38 c38_1 c38_2 c38_3
def c38_s:=reg38 c38 c38_1 (fun N M G k e w =>
 M (.int .i64 0) fun t2 =>
 k (Env.p e 2 t2) w)
theorem call38 {a0 : Value} {w : World} {R : Value → World → Prop} (h : W3 Tryd.prog 36 V38 c38 (retQ Tryd.prog [.tmp 2] R) (argE [a0]) w) : CallsN Tryd.prog 38 [a0] w R :=
 callsN_of_W3 (c := c38) (rs := [.tmp 2]) V38 Tryd.ntmps38 (by rw [Tryd.results38]) mixed Tryd.func38 (by kernel_rfl) (by kernel_rfl) (by kernel_rfl) (by kernel_rfl) (by simp) h
def w3t_38:=w3t Tryd.prog 36 V38
def hk38 := aI @c38_2_s <| aI @c38_7_s <| aI @c38_10_s <| aI @c38_13_s <| aI @c38_16_s <| aI @c38_19_s <| aI @c38_22_s <| aI @c38_25_s <| aI @c38_28_s <| aI @c38_31_s <| aI @c38_34_s <| aI @c38_37_s <| aI @c38_40_s <| aI @c38_43_s <| aI @c38_46_s <| aI @c38_49_s <| aI @c38_52_s <| aI @c38_51_s <| aI @c38_50_s <| aI @c38_48_s <| aI @c38_47_s <| aI @c38_45_s <| aI @c38_44_s <| aI @c38_42_s <| aI @c38_41_s <| aI @c38_39_s <| aI @c38_38_s <| aI @c38_36_s <| aI @c38_35_s <| aI @c38_33_s <| aI @c38_32_s <| aI @c38_30_s <| aI @c38_29_s <| aI @c38_27_s <| aI @c38_26_s <| aI @c38_24_s <| aI @c38_23_s <| aI @c38_21_s <| aI @c38_20_s <| aI @c38_18_s <| aI @c38_17_s <| aI @c38_15_s <| aI @c38_14_s <| aI @c38_12_s <| aI @c38_11_s <| aI @c38_9_s <| aI @c38_8_s <| aI @c38_6_s <| aI @c38_5_s <| aI @c38_4_s <| aI @c38_3_s <| aI @c38_1_s <| aI @c38_s <| @w3t_38
-- K38: ↓hk38
/-! ### vouch/vouchref21.Number -/
def V39 : Nat → Bool := fun i => [0, 2, 3, 4, 5, 23, 27, 39].elem i
def block39:=@s_block Tryd.prog 49 V39
def cond39:=@s_cond Tryd.prog 49 V39
def loop39:=@s_loop Tryd.prog 49 V39
def reg39:=@s_reg Tryd.prog 49 V39
def rend39:=@s_rend Tryd.prog 49 V39
def seq39:=@s_seq Tryd.prog 49 V39
noncomputable def c39:Code:=(Tryd.f39.body.getD .skip)
noncomputable def c39_1:=cR c39
noncomputable def c39_2:=cR c39_1
noncomputable def c39_3:=cR c39_2
noncomputable def c39_4:=cR c39_3
noncomputable def c39_5:=cL c39_3
noncomputable def c39_6:=cR c39_5
noncomputable def c39_7:=cL c39_6
noncomputable def c39_8:=cL c39_7
noncomputable def c39_9:=cR c39_8
noncomputable def c39_10:=cR c39_9
noncomputable def c39_11:=cL c39_9
noncomputable def c39_12:=cL c39_11
noncomputable def c39_13:=cR c39_12
noncomputable def c39_14:=cL c39_12
noncomputable def c39_15:=cR c39_14
noncomputable def c39_16:=cL c39_15
noncomputable def c39_17:=cL c39_8
noncomputable def c39_18:=cR c39_17
noncomputable def c39_19:=cL c39_1
noncomputable def c39_20:=cR c39_19
noncomputable def c39_21:=cL c39_20
def c39_4_s:=reg39 c39_4 .ret (fun N M G k e w =>
 M (e 4) fun t48 =>
 M t48 fun t2 =>
 M (.bool true) fun t3 =>
 k (Env.p (Env.p e 2 t2) 3 t3) w)
def c39_10_s:=rend39 c39_10 (fun N M G k e w =>
 M (e 5) fun t28 =>
 N (xv (xbin .add 3 (.tmp 28) (.const (.int .i64 1)) t28 (.int .i64 1))) w fun t29 w =>
 M t29 fun t5 =>
 k (Env.p e 5 t5) w)
def c39_13_s:=rend39 c39_13 (fun N M G k e w =>
 M (e 4) fun t40 =>
 N (xv (xbin .mul 3 (.tmp 40) (.const (.int .i64 10)) t40 (.int .i64 10))) w fun t41 w =>
 M (e 0) fun t42 =>
 M (e 5) fun t43 =>
 N (xv (Instr.index 9 t42 t43)) w fun t44 w =>
 N (xv (convert 5 3 t44)) w fun t45 w =>
 N (xv (xbin .add 3 (.tmp 41) (.tmp 45) t41 t45)) w fun t46 w =>
 N (xv (xbin .sub 3 (.tmp 46) (.const (.int .i64 48)) t46 (.int .i64 48))) w fun t47 w =>
 M t47 fun t4 =>
 k (Env.p e 4 t4) w)
def c39_16_s:=reg39 c39_16 .ret (fun N M G k e w =>
 M (.int .i64 0) fun t2 =>
 M (.bool false) fun t3 =>
 k (Env.p (Env.p e 2 t2) 3 t3) w)
def c39_15_s:=cond39 c39_15 .skip 39 c39_16
def c39_14_s:=reg39 c39_14 c39_15 (fun N M G k e w =>
 M (e 0) fun t30 =>
 M (e 5) fun t31 =>
 N (xv (Instr.index 9 t30 t31)) w fun t32 w =>
 N (xv (xbin .lss 5 (.tmp 32) (.const (.int .u8 48)) t32 (.int .u8 48))) w fun t33 w =>
 M t33 fun t34 =>
 G (isB t34 false) (fun K => M (e 0) fun v => K v w) (fun t35 w =>
 G (isB t34 false) (fun K => M (e 5) fun v => K v w) (fun t36 w =>
 G (isB t34 false) (fun K => N (xv (Instr.index 9 t35 t36)) w K) (fun t37 w =>
 G (isB t34 false) (fun K => N (xv (xbin .gtr 5 (.tmp 37) (.const (.int .u8 57)) t37 (.int .u8 57))) w K) (fun t38 w =>
 N (xpick t34 (.bool true) t38) w fun t39 w =>
 k (Env.p e 39 t39) w) w) w) w) w)
def c39_12_s:=seq39 c39_12 c39_13 c39_14
def c39_11_s:=block39 c39_11 c39_12 1
def c39_9_s:=seq39 c39_9 c39_10 c39_11
def c39_18_s:=cond39 c39_18 (.exit 0) 27 .skip
def c39_17_s:=reg39 c39_17 c39_18 (fun N M G k e w =>
 M (e 5) fun t24 =>
 M (e 0) fun t25 =>
 N (builtin Builtin.len #[9] 3 ([false]).toArray ([t25]).toArray) w fun t26 w =>
 N (xv (xbin .lss 3 (.tmp 24) (.tmp 26) t24 t26)) w fun t27 w =>
 k (Env.p e 27 t27) w)
def c39_8_s:=seq39 c39_8 c39_9 c39_17
def c39_7_s:=loop39 c39_7 c39_8
def c39_6_s:=block39 c39_6 c39_7 0
def c39_5_s:=reg39 c39_5 c39_6 (fun N M G k e w =>
 M (.int .i64 0) fun t5 =>
 k (Env.p e 5 t5) w)
def c39_3_s:=seq39 c39_3 c39_4 c39_5
def c39_2_s:=reg39 c39_2 c39_3 (fun N M G k e w =>
 M (.int .i64 0) fun t4 =>
 k (Env.p e 4 t4) w)
def c39_21_s:=reg39 c39_21 .ret (fun N M G k e w =>
 M (.int .i64 0) fun t2 =>
 M (.bool false) fun t3 =>
 k (Env.p (Env.p e 2 t2) 3 t3) w)
def c39_20_s:=cond39 c39_20 .skip 23 c39_21
def c39_19_s:=reg39 c39_19 c39_20 (fun N M G k e w =>
 M (e 0) fun t6 =>
 N (builtin Builtin.len #[9] 3 ([false]).toArray ([t6]).toArray) w fun t7 w =>
 N (xv (xbin .lss 3 (.tmp 7) (.const (.int .i64 1)) t7 (.int .i64 1))) w fun t8 w =>
 M t8 fun t9 =>
 G (isB t9 false) (fun K => M (e 0) fun v => K v w) (fun t10 w =>
 G (isB t9 false) (fun K => N (builtin Builtin.len #[9] 3 ([false]).toArray ([t10]).toArray) w K) (fun t11 w =>
 G (isB t9 false) (fun K => N (xv (xbin .gtr 3 (.tmp 11) (.const (.int .i64 9)) t11 (.int .i64 9))) w K) (fun t12 w =>
 N (xpick t9 (.bool true) t12) w fun t13 w =>
 M t13 fun t14 =>
 G (isB t14 false) (fun K => M (e 0) fun v => K v w) (fun t15 w =>
 G (isB t14 false) (fun K => N (builtin Builtin.len #[9] 3 ([false]).toArray ([t15]).toArray) w K) (fun t16 w =>
 G (isB t14 false) (fun K => N (xv (xbin .gtr 3 (.tmp 16) (.const (.int .i64 1)) t16 (.int .i64 1))) w K) (fun t17 w =>
 G (isB t14 false) (fun K => M t17 fun v => K v w) (fun t18 w =>
 G (isB t18 true) (fun K => M (e 0) fun v => K v w) (fun t19 w =>
 G (isB t18 true) (fun K => N (xv (Instr.index 9 t19 (.int .i64 0))) w K) (fun t20 w =>
 G (isB t18 true) (fun K => N (xv (xbin .eql 5 (.tmp 20) (.const (.int .u8 48)) t20 (.int .u8 48))) w K) (fun t21 w =>
 G (isB t14 false) (fun K => N (xpick t18 t21 (.bool false)) w K) (fun t22 w =>
 N (xpick t14 (.bool true) t22) w fun t23 w =>
 k (Env.p e 23 t23) w) w) w) w) w) w) w) w) w) w) w) w)
def c39_1_s:=seq39 c39_1 c39_2 c39_19
def c39_s:=reg39 c39 c39_1 (fun N M G k e w =>
 M (.int .i64 0) fun t2 =>
 M (.bool false) fun t3 =>
 k (Env.p (Env.p e 2 t2) 3 t3) w)
theorem call39 {a0 : Value} {w : World} {R : Value → World → Prop} (h : W3 Tryd.prog 49 V39 c39 (retQ Tryd.prog [.tmp 2, .tmp 3] R) (argE [a0]) w) : CallsN Tryd.prog 39 [a0] w R :=
 callsN_of_W3 (c := c39) (rs := [.tmp 2, .tmp 3]) V39 Tryd.ntmps39 (by rw [Tryd.results39]) mixed Tryd.func39 (by kernel_rfl) (by kernel_rfl) (by kernel_rfl) (by kernel_rfl) (by simp) h
def w3t_39:=w3t Tryd.prog 49 V39
def hk39 := aI @c39_4_s <| aI @c39_10_s <| aI @c39_13_s <| aI @c39_16_s <| aI @c39_15_s <| aI @c39_14_s <| aI @c39_12_s <| aI @c39_11_s <| aI @c39_9_s <| aI @c39_18_s <| aI @c39_17_s <| aI @c39_8_s <| aI @c39_7_s <| aI @c39_6_s <| aI @c39_5_s <| aI @c39_3_s <| aI @c39_2_s <| aI @c39_21_s <| aI @c39_20_s <| aI @c39_19_s <| aI @c39_1_s <| aI @c39_s <| @w3t_39
-- K39: ↓hk39
/-! ### vouch/vouchref21.Write -/
def V40 : Nat → Bool := fun i => [0, 2, 3, 4, 5, 9, 15, 37].elem i
def block40:=@s_block Tryd.prog 43 V40
def cond40:=@s_cond Tryd.prog 43 V40
def drw40:=@s_drw Tryd.prog 43 V40
def loop40:=@s_loop Tryd.prog 43 V40
def reg40:=@s_reg Tryd.prog 43 V40
def rend40:=@s_rend Tryd.prog 43 V40
def seq40:=@s_seq Tryd.prog 43 V40
noncomputable def c40:Code:=(Tryd.f40.body.getD .skip)
noncomputable def c40_1:=cR c40
noncomputable def c40_2:=cR c40_1
noncomputable def c40_3:=cR c40_2
noncomputable def c40_4:=cR c40_3
noncomputable def c40_5:=cL c40_3
noncomputable def c40_6:=cR c40_5
noncomputable def c40_7:=cL c40_6
noncomputable def c40_8:=cL c40_1
noncomputable def c40_9:=cR c40_8
noncomputable def c40_10:=cL c40_9
noncomputable def c40_11:=cL c40_10
noncomputable def c40_12:=cR c40_11
noncomputable def c40_13:=cR c40_12
noncomputable def c40_14:=cL c40_12
noncomputable def c40_15:=cL c40_14
noncomputable def c40_16:=cR c40_15
noncomputable def c40_17:=cL c40_16
noncomputable def b40_5:List Row:=[(0, 0, 1, 17, true), (0, 0, 16, 18, true), (3, 3, 196608, 19, true), (0, 0, 1, 20, true), (0, 0, 16, 21, true), (16, 16, 1048576, 22, true), (40, 56, 2621440, 23, true), (64, 120, 4194304, 24, true), (132, 255, 8650752, 25, true), (0, 0, 16, 26, true), (512, 512, 33554432, 27, true), (511, 511, 16777220, 0, false), (4095, 4095, 67108864, 4, true)]
noncomputable def c40_18:=cL c40_11
noncomputable def c40_19:=cR c40_18
def c40_4_s:=reg40 c40_4 .ret (fun N M G k e w =>
 M (e 0) fun t39 =>
 M (e 5) fun t40 =>
 N (xv (Instr.sliceAt 9 t39 none (some t40) none)) w fun t41 w =>
 N (xv (Instr.build 60 ([(0, t41)]).toArray)) w fun t42 w =>
 N (xu (storeAt 60 (e 2) t42)) w fun _ w =>
 M (.bool true) fun t3 =>
 k (Env.p e 3 t3) w)
def c40_7_s:=reg40 c40_7 .ret (fun N M G k e w =>
 N (xv (Instr.build 60 ([]).toArray)) w fun t38 w =>
 N (xu (storeAt 60 (e 2) t38)) w fun _ w =>
 M (.bool false) fun t3 =>
 k (Env.p e 3 t3) w)
def c40_6_s:=cond40 c40_6 .skip 37 c40_7
def c40_5_s:=reg40 c40_5 c40_6 (fun N M G k e w =>
 M (e 5) fun t30 =>
 N (xv (xbin .lss 3 (.tmp 30) (.const (.int .i64 1)) t30 (.int .i64 1))) w fun t31 w =>
 M t31 fun t32 =>
 G (isB t32 false) (fun K => M (e 0) fun v => K v w) (fun t33 w =>
 G (isB t32 false) (fun K => M (e 5) fun v => K v w) (fun t34 w =>
 G (isB t32 false) (fun K => N (xv (Instr.index 9 t33 t34)) w K) (fun t35 w =>
 G (isB t32 false) (fun K => N (xv (xbin .neq 5 (.tmp 35) (.const (.int .u8 33)) t35 (.int .u8 33))) w K) (fun t36 w =>
 N (xpick t32 (.bool true) t36) w fun t37 w =>
 k (Env.p e 37 t37) w) w) w) w) w)
def c40_3_s:=seq40 c40_3 c40_4 c40_5
def c40_2_s:=reg40 c40_2 c40_3 (fun N M G k e w =>
 M (e 0) fun t27 =>
 N (builtin Builtin.len #[9] 3 ([false]).toArray ([t27]).toArray) w fun t28 w =>
 N (xv (xbin .sub 3 (.tmp 28) (.const (.int .i64 1)) t28 (.int .i64 1))) w fun t29 w =>
 M t29 fun t5 =>
 k (Env.p e 5 t5) w)
def c40_13_s:=rend40 c40_13 (fun N M G k e w =>
 M (e 4) fun t10 =>
 N (xv (xbin .add 3 (.tmp 10) (.const (.int .i64 1)) t10 (.int .i64 1))) w fun t11 w =>
 M t11 fun t4 =>
 k (Env.p e 4 t4) w)
def c40_17_s:=drw40 c40_17 .ret b40_5 13 (fun N T M G H Y k e w =>
 M (e 0) fun t16 =>
 M (e 4) fun t17 =>
 T (FrX none w) (xv (Instr.sliceAt 9 t16 none (some t17) none)) fun t18 =>
 M (e 0) fun t19 =>
 M (e 4) fun t20 =>
 T (FrX none w) (xv (xbin .add 3 (.tmp 20) (.const (.int .i64 1)) t20 (.int .i64 1))) fun t21 =>
 T (FrX none w) (xv (Instr.sliceAt 9 t19 (some t21) none none)) fun t22 =>
 T (FrX none w) (xv (Instr.build 58 ([(0, (.bool true)), (1, t22)]).toArray)) fun t23 =>
 T (FrX none w) (xv (Instr.build 60 ([(0, t18), (1, t23)]).toArray)) fun t24 =>
 M (e 4) fun t25 =>
 T (FrX none w) (xv (xbin .gtr 3 (.tmp 25) (.const (.int .i64 0)) t25 (.int .i64 0))) fun t26 =>
 N (xu (storeAt 60 (e 2) t24)) w fun _ w11 =>
 M t26 fun t3 =>
 k (Env.p e 3 t3) w11)
def c40_16_s:=cond40 c40_16 .skip 15 c40_17
def c40_15_s:=reg40 c40_15 c40_16 (fun N M G k e w =>
 M (e 0) fun t12 =>
 M (e 4) fun t13 =>
 N (xv (Instr.index 9 t12 t13)) w fun t14 w =>
 N (xv (xbin .eql 5 (.tmp 14) (.const (.int .u8 61)) t14 (.int .u8 61))) w fun t15 w =>
 k (Env.p e 15 t15) w)
def c40_14_s:=block40 c40_14 c40_15 1
def c40_12_s:=seq40 c40_12 c40_13 c40_14
def c40_19_s:=cond40 c40_19 (.exit 0) 9 .skip
def c40_18_s:=reg40 c40_18 c40_19 (fun N M G k e w =>
 M (e 4) fun t6 =>
 M (e 0) fun t7 =>
 N (builtin Builtin.len #[9] 3 ([false]).toArray ([t7]).toArray) w fun t8 w =>
 N (xv (xbin .lss 3 (.tmp 6) (.tmp 8) t6 t8)) w fun t9 w =>
 k (Env.p e 9 t9) w)
def c40_11_s:=seq40 c40_11 c40_12 c40_18
def c40_10_s:=loop40 c40_10 c40_11
def c40_9_s:=block40 c40_9 c40_10 0
def c40_8_s:=reg40 c40_8 c40_9 (fun N M G k e w =>
 M (.int .i64 0) fun t4 =>
 k (Env.p e 4 t4) w)
def c40_1_s:=seq40 c40_1 c40_2 c40_8
def c40_s:=reg40 c40 c40_1 (fun N M G k e w =>
 N (xv (Instr.alloc 60 true (.tuple #[]))) w fun t2 w =>
 M (.bool false) fun t3 =>
 k (Env.p (Env.p e 2 t2) 3 t3) w)
theorem call40 {a0 : Value} {w : World} {R : Value → World → Prop} (h : W3 Tryd.prog 43 V40 c40 (retQ Tryd.prog [.cell 2 60, .tmp 3] R) (argE [a0]) w) : CallsN Tryd.prog 40 [a0] w R :=
 callsN_of_W3 (c := c40) (rs := [.cell 2 60, .tmp 3]) V40 Tryd.ntmps40 (by rw [Tryd.results40]) mixed Tryd.func40 (by kernel_rfl) (by kernel_rfl) (by kernel_rfl) (by kernel_rfl) (by simp) h
def w3t_40:=w3t Tryd.prog 43 V40
def hk40 := aI @c40_4_s <| aI @c40_7_s <| aI @c40_6_s <| aI @c40_5_s <| aI @c40_3_s <| aI @c40_2_s <| aI @c40_13_s <| aI @c40_17_s <| aI @c40_16_s <| aI @c40_15_s <| aI @c40_14_s <| aI @c40_12_s <| aI @c40_19_s <| aI @c40_18_s <| aI @c40_11_s <| aI @c40_10_s <| aI @c40_9_s <| aI @c40_8_s <| aI @c40_1_s <| aI @c40_s <| @w3t_40
-- K40: ↓hk40
end
end Go.Proofs.YtbbjnplellanaaaDoor
