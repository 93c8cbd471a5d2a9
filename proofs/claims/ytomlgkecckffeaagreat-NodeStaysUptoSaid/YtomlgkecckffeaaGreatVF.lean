/- The equations of the code of some functions, written by the printer gen3.py: each is checked by the kernel. -/
import Derived.Test.YtomlgkecckffeaaGreatCI
set_option linter.unusedVariables false
set_option linter.unusedSimpArgs false
set_option maxRecDepth 100000
namespace Go.Proofs.YtomlgkecckffeaaGreat
open Go.VW
open Go.Instr (loadAt storeAt fieldAt indexAt)
noncomputable section
set_option linter.defProp false
variable {N : NT} {T : T3T} {M : MT} {G : GT} {H : HT} {Y : YT} {k : KT} {Q : Exit → Env → World → Prop} {e el eg : Env} {w u0 u1 u2 u3 u4 u5 u6 u7 u8 u9 : World}
/-! ### slices.SortStableFunc[[]int,int] -/
def V145 : Nat → Bool := fun i => [0, 1].elem i
def rend145:=@s_rend Tryz.prog 9 V145
noncomputable def c145:Code:=(Tryz.f145.body.getD .skip)
def c145_s:=rend145 c145 (fun N M G k e w =>
 M (e 0) fun t4 =>
 M (e 0) fun t5 =>
 N (builtin Builtin.len #[63] 3 ([false]).toArray ([t5]).toArray) w fun t6 w =>
 M (e 1) fun t7 =>
 N (xcall (.func (.func 185) #[] #[]) [t4, t6, t7]) w fun t8 w =>
 k e w)
theorem call145 {a0 a1 : Value} {w : World} {R : Value → World → Prop} (h : W3 Tryz.prog 9 V145 c145 (retQ Tryz.prog [] R) (argE [a0, a1]) w) : CallsN Tryz.prog 145 [a0, a1] w R :=
 callsN_of_W3 (c := c145) (rs := []) V145 Tryz.ntmps145 (by rw [Tryz.results145]) mixed Tryz.func145 (by kernel_rfl) (by kernel_rfl) (by kernel_rfl) (by kernel_rfl) (by simp) h
def w3t_145:=w3t Tryz.prog 9 V145
def hk145 := aI @c145_s <| @w3t_145
-- K145: ↓hk145
/-! ### slices.stableCmpFunc[int] -/
def V185 : Nat → Bool := fun i => [0, 1, 2, 6, 7, 8, 9, 13, 30, 35, 54].elem i
def block185:=@s_block Tryz.prog 63 V185
def cond185:=@s_cond Tryz.prog 63 V185
def loop185:=@s_loop Tryz.prog 63 V185
def reg185:=@s_reg Tryz.prog 63 V185
def rend185:=@s_rend Tryz.prog 63 V185
def seq185:=@s_seq Tryz.prog 63 V185
noncomputable def c185:Code:=(Tryz.f185.body.getD .skip)
noncomputable def c185_1:=cR c185
noncomputable def c185_2:=cR c185_1
noncomputable def c185_3:=cR c185_2
noncomputable def c185_4:=cR c185_3
noncomputable def c185_5:=cL c185_4
noncomputable def c185_6:=cL c185_5
noncomputable def c185_7:=cR c185_6
noncomputable def c185_8:=cL c185_7
noncomputable def c185_9:=cR c185_8
noncomputable def c185_10:=cR c185_9
noncomputable def c185_11:=cR c185_10
noncomputable def c185_12:=cL c185_10
noncomputable def c185_13:=cR c185_12
noncomputable def c185_14:=cR c185_13
noncomputable def c185_15:=cL c185_14
noncomputable def c185_16:=cL c185_9
noncomputable def c185_17:=cL c185_16
noncomputable def c185_18:=cL c185_17
noncomputable def c185_19:=cR c185_18
noncomputable def c185_20:=cL c185_19
noncomputable def c185_21:=cR c185_20
noncomputable def c185_22:=cR c185_21
noncomputable def c185_23:=cL c185_18
noncomputable def c185_24:=cR c185_23
noncomputable def c185_25:=cL c185_6
noncomputable def c185_26:=cR c185_25
noncomputable def c185_27:=cL c185_2
noncomputable def c185_28:=cL c185_27
noncomputable def c185_29:=cL c185_28
noncomputable def c185_30:=cR c185_29
noncomputable def c185_31:=cL c185_30
noncomputable def c185_32:=cR c185_31
noncomputable def c185_33:=cR c185_32
noncomputable def c185_34:=cL c185_29
noncomputable def c185_35:=cR c185_34
def c185_11_s:=rend185 c185_11 (fun N M G k e w =>
 M (e 6) fun t61 =>
 N (xv (xbin .mul 3 (.tmp 61) (.const (.int .i64 2)) t61 (.int .i64 2))) w fun t62 w =>
 M t62 fun t6 =>
 k (Env.p e 6 t6) w)
def c185_15_s:=rend185 c185_15 (fun N M G k e w =>
 M (e 0) fun t55 =>
 M (e 7) fun t56 =>
 M (e 9) fun t57 =>
 M (e 1) fun t58 =>
 M (e 2) fun t59 =>
 N (xcall (.func (.func 209) #[] #[]) [t55, t56, t57, t58, t59]) w fun t60 w =>
 k e w)
def c185_14_s:=cond185 c185_14 .skip 54 c185_15
def c185_13_s:=reg185 c185_13 c185_14 (fun N M G k e w =>
 M (e 9) fun t52 =>
 M (e 1) fun t53 =>
 N (xv (xbin .lss 3 (.tmp 52) (.tmp 53) t52 t53)) w fun t54 w =>
 k (Env.p e 54 t54) w)
def c185_12_s:=reg185 c185_12 c185_13 (fun N M G k e w =>
 M (e 7) fun t49 =>
 M (e 6) fun t50 =>
 N (xv (xbin .add 3 (.tmp 49) (.tmp 50) t49 t50)) w fun t51 w =>
 M t51 fun t9 =>
 k (Env.p e 9 t9) w)
def c185_10_s:=seq185 c185_10 c185_11 c185_12
def c185_22_s:=rend185 c185_22 (fun N M G k e w =>
 M (e 8) fun t45 =>
 M (e 6) fun t46 =>
 N (xv (xbin .mul 3 (.const (.int .i64 2)) (.tmp 46) (.int .i64 2) t46)) w fun t47 w =>
 N (xv (xbin .add 3 (.tmp 45) (.tmp 47) t45 t47)) w fun t48 w =>
 M t48 fun t8 =>
 k (Env.p e 8 t8) w)
def c185_21_s:=reg185 c185_21 c185_22 (fun N M G k e w =>
 M (e 8) fun t44 =>
 M t44 fun t7 =>
 k (Env.p e 7 t7) w)
def c185_20_s:=reg185 c185_20 c185_21 (fun N M G k e w =>
 M (e 0) fun t36 =>
 M (e 7) fun t37 =>
 M (e 7) fun t38 =>
 M (e 6) fun t39 =>
 N (xv (xbin .add 3 (.tmp 38) (.tmp 39) t38 t39)) w fun t40 w =>
 M (e 8) fun t41 =>
 M (e 2) fun t42 =>
 N (xcall (.func (.func 209) #[] #[]) [t36, t37, t40, t41, t42]) w fun t43 w =>
 k e w)
def c185_19_s:=block185 c185_19 c185_20 5
def c185_24_s:=cond185 c185_24 (.exit 4) 35 .skip
def c185_23_s:=reg185 c185_23 c185_24 (fun N M G k e w =>
 M (e 8) fun t33 =>
 M (e 1) fun t34 =>
 N (xv (xbin .leq 3 (.tmp 33) (.tmp 34) t33 t34)) w fun t35 w =>
 k (Env.p e 35 t35) w)
def c185_18_s:=seq185 c185_18 c185_19 c185_23
def c185_17_s:=loop185 c185_17 c185_18
def c185_16_s:=block185 c185_16 c185_17 4
def c185_9_s:=seq185 c185_9 c185_10 c185_16
def c185_8_s:=reg185 c185_8 c185_9 (fun N M G k e w =>
 M (e 6) fun t31 =>
 N (xv (xbin .mul 3 (.const (.int .i64 2)) (.tmp 31) (.int .i64 2) t31)) w fun t32 w =>
 M (.int .i64 0) fun t7 =>
 M t32 fun t8 =>
 k (Env.p (Env.p e 7 t7) 8 t8) w)
def c185_7_s:=block185 c185_7 c185_8 3
def c185_26_s:=cond185 c185_26 (.exit 2) 30 .skip
def c185_25_s:=reg185 c185_25 c185_26 (fun N M G k e w =>
 M (e 6) fun t28 =>
 M (e 1) fun t29 =>
 N (xv (xbin .lss 3 (.tmp 28) (.tmp 29) t28 t29)) w fun t30 w =>
 k (Env.p e 30 t30) w)
def c185_6_s:=seq185 c185_6 c185_7 c185_25
def c185_5_s:=loop185 c185_5 c185_6
def c185_4_s:=block185 c185_4 c185_5 2
def c185_3_s:=reg185 c185_3 c185_4 (fun N M G k e w =>
 M (e 0) fun t23 =>
 M (e 7) fun t24 =>
 M (e 1) fun t25 =>
 M (e 2) fun t26 =>
 N (xcall (.func (.func 208) #[] #[]) [t23, t24, t25, t26]) w fun t27 w =>
 k e w)
def c185_33_s:=rend185 c185_33 (fun N M G k e w =>
 M (e 8) fun t20 =>
 M (e 6) fun t21 =>
 N (xv (xbin .add 3 (.tmp 20) (.tmp 21) t20 t21)) w fun t22 w =>
 M t22 fun t8 =>
 k (Env.p e 8 t8) w)
def c185_32_s:=reg185 c185_32 c185_33 (fun N M G k e w =>
 M (e 8) fun t19 =>
 M t19 fun t7 =>
 k (Env.p e 7 t7) w)
def c185_31_s:=reg185 c185_31 c185_32 (fun N M G k e w =>
 M (e 0) fun t14 =>
 M (e 7) fun t15 =>
 M (e 8) fun t16 =>
 M (e 2) fun t17 =>
 N (xcall (.func (.func 208) #[] #[]) [t14, t15, t16, t17]) w fun t18 w =>
 k e w)
def c185_30_s:=block185 c185_30 c185_31 1
def c185_35_s:=cond185 c185_35 (.exit 0) 13 .skip
def c185_34_s:=reg185 c185_34 c185_35 (fun N M G k e w =>
 M (e 8) fun t11 =>
 M (e 1) fun t12 =>
 N (xv (xbin .leq 3 (.tmp 11) (.tmp 12) t11 t12)) w fun t13 w =>
 k (Env.p e 13 t13) w)
def c185_29_s:=seq185 c185_29 c185_30 c185_34
def c185_28_s:=loop185 c185_28 c185_29
def c185_27_s:=block185 c185_27 c185_28 0
def c185_2_s:=seq185 c185_2 c185_3 c185_27
def c185_1_s:=reg185 c185_1 c185_2 (fun N M G k e w =>
 M (e 6) fun t10 =>
 M (.int .i64 0) fun t7 =>
 M t10 fun t8 =>
 k (Env.p (Env.p e 7 t7) 8 t8) w)
def c185_s:=reg185 c185 c185_1 (fun N M G k e w =>
 M (.int .i64 20) fun t6 =>
 k (Env.p e 6 t6) w)
theorem call185 {a0 a1 a2 : Value} {w : World} {R : Value → World → Prop} (h : W3 Tryz.prog 63 V185 c185 (retQ Tryz.prog [] R) (argE [a0, a1, a2]) w) : CallsN Tryz.prog 185 [a0, a1, a2] w R :=
 callsN_of_W3 (c := c185) (rs := []) V185 Tryz.ntmps185 (by rw [Tryz.results185]) mixed Tryz.func185 (by kernel_rfl) (by kernel_rfl) (by kernel_rfl) (by kernel_rfl) (by simp) h
def w3t_185:=w3t Tryz.prog 63 V185
def hk185 := aI @c185_11_s <| aI @c185_15_s <| aI @c185_14_s <| aI @c185_13_s <| aI @c185_12_s <| aI @c185_10_s <| aI @c185_22_s <| aI @c185_21_s <| aI @c185_20_s <| aI @c185_19_s <| aI @c185_24_s <| aI @c185_23_s <| aI @c185_18_s <| aI @c185_17_s <| aI @c185_16_s <| aI @c185_9_s <| aI @c185_8_s <| aI @c185_7_s <| aI @c185_26_s <| aI @c185_25_s <| aI @c185_6_s <| aI @c185_5_s <| aI @c185_4_s <| aI @c185_3_s <| aI @c185_33_s <| aI @c185_32_s <| aI @c185_31_s <| aI @c185_30_s <| aI @c185_35_s <| aI @c185_34_s <| aI @c185_29_s <| aI @c185_28_s <| aI @c185_27_s <| aI @c185_2_s <| aI @c185_1_s <| aI @c185_s <| @w3t_185
-- K185: ↓hk185
/-! ### slices.rotateCmpFunc[int] -/
def V233 : Nat → Bool := fun i => [0, 1, 2, 3, 4, 10, 11, 20, 23].elem i
def block233:=@s_block Tryz.prog 58 V233
def cond233:=@s_cond Tryz.prog 58 V233
def loop233:=@s_loop Tryz.prog 58 V233
def reg233:=@s_reg Tryz.prog 58 V233
def rend233:=@s_rend Tryz.prog 58 V233
def seq233:=@s_seq Tryz.prog 58 V233
noncomputable def c233:Code:=(Tryz.f233.body.getD .skip)
noncomputable def c233_1:=cR c233
noncomputable def c233_2:=cR c233_1
noncomputable def c233_3:=cR c233_2
noncomputable def c233_4:=cL c233_2
noncomputable def c233_5:=cL c233_4
noncomputable def c233_6:=cL c233_5
noncomputable def c233_7:=cR c233_6
noncomputable def c233_8:=cL c233_7
noncomputable def c233_9:=cR c233_8
noncomputable def c233_10:=cL c233_9
noncomputable def c233_11:=cR c233_10
noncomputable def c233_12:=cR c233_9
noncomputable def c233_13:=cR c233_12
noncomputable def c233_14:=cL c233_6
noncomputable def c233_15:=cR c233_14
def c233_3_s:=rend233 c233_3 (fun N M G k e w =>
 M (e 0) fun t50 =>
 M (e 2) fun t51 =>
 M (e 10) fun t52 =>
 N (xv (xbin .sub 3 (.tmp 51) (.tmp 52) t51 t52)) w fun t53 w =>
 M (e 2) fun t54 =>
 M (e 10) fun t55 =>
 M (e 4) fun t56 =>
 N (xcall (.func (.func 245) #[] #[]) [t50, t53, t54, t55, t56]) w fun t57 w =>
 k e w)
def c233_11_s:=rend233 c233_11 (fun N M G k e w =>
 M (e 10) fun t32 =>
 M (e 11) fun t33 =>
 N (xv (xbin .sub 3 (.tmp 32) (.tmp 33) t32 t33)) w fun t34 w =>
 M t34 fun t10 =>
 k (Env.p e 10 t10) w)
def c233_10_s:=reg233 c233_10 c233_11 (fun N M G k e w =>
 M (e 0) fun t24 =>
 M (e 2) fun t25 =>
 M (e 10) fun t26 =>
 N (xv (xbin .sub 3 (.tmp 25) (.tmp 26) t25 t26)) w fun t27 w =>
 M (e 2) fun t28 =>
 M (e 11) fun t29 =>
 M (e 4) fun t30 =>
 N (xcall (.func (.func 245) #[] #[]) [t24, t27, t28, t29, t30]) w fun t31 w =>
 k e w)
def c233_13_s:=rend233 c233_13 (fun N M G k e w =>
 M (e 11) fun t47 =>
 M (e 10) fun t48 =>
 N (xv (xbin .sub 3 (.tmp 47) (.tmp 48) t47 t48)) w fun t49 w =>
 M t49 fun t11 =>
 k (Env.p e 11 t11) w)
def c233_12_s:=reg233 c233_12 c233_13 (fun N M G k e w =>
 M (e 0) fun t35 =>
 M (e 2) fun t36 =>
 M (e 10) fun t37 =>
 N (xv (xbin .sub 3 (.tmp 36) (.tmp 37) t36 t37)) w fun t38 w =>
 M (e 2) fun t39 =>
 M (e 11) fun t40 =>
 N (xv (xbin .add 3 (.tmp 39) (.tmp 40) t39 t40)) w fun t41 w =>
 M (e 10) fun t42 =>
 N (xv (xbin .sub 3 (.tmp 41) (.tmp 42) t41 t42)) w fun t43 w =>
 M (e 10) fun t44 =>
 M (e 4) fun t45 =>
 N (xcall (.func (.func 245) #[] #[]) [t35, t38, t43, t44, t45]) w fun t46 w =>
 k e w)
def c233_9_s:=cond233 c233_9 c233_12 23 c233_10
def c233_8_s:=reg233 c233_8 c233_9 (fun N M G k e w =>
 M (e 10) fun t21 =>
 M (e 11) fun t22 =>
 N (xv (xbin .gtr 3 (.tmp 21) (.tmp 22) t21 t22)) w fun t23 w =>
 k (Env.p e 23 t23) w)
def c233_7_s:=block233 c233_7 c233_8 1
def c233_15_s:=cond233 c233_15 (.exit 0) 20 .skip
def c233_14_s:=reg233 c233_14 c233_15 (fun N M G k e w =>
 M (e 10) fun t18 =>
 M (e 11) fun t19 =>
 N (xv (xbin .neq 3 (.tmp 18) (.tmp 19) t18 t19)) w fun t20 w =>
 k (Env.p e 20 t20) w)
def c233_6_s:=seq233 c233_6 c233_7 c233_14
def c233_5_s:=loop233 c233_5 c233_6
def c233_4_s:=block233 c233_4 c233_5 0
def c233_2_s:=seq233 c233_2 c233_3 c233_4
def c233_1_s:=reg233 c233_1 c233_2 (fun N M G k e w =>
 M (e 3) fun t15 =>
 M (e 2) fun t16 =>
 N (xv (xbin .sub 3 (.tmp 15) (.tmp 16) t15 t16)) w fun t17 w =>
 M t17 fun t11 =>
 k (Env.p e 11 t11) w)
def c233_s:=reg233 c233 c233_1 (fun N M G k e w =>
 M (e 2) fun t12 =>
 M (e 1) fun t13 =>
 N (xv (xbin .sub 3 (.tmp 12) (.tmp 13) t12 t13)) w fun t14 w =>
 M t14 fun t10 =>
 k (Env.p e 10 t10) w)
theorem call233 {a0 a1 a2 a3 a4 : Value} {w : World} {R : Value → World → Prop} (h : W3 Tryz.prog 58 V233 c233 (retQ Tryz.prog [] R) (argE [a0, a1, a2, a3, a4]) w) : CallsN Tryz.prog 233 [a0, a1, a2, a3, a4] w R :=
 callsN_of_W3 (c := c233) (rs := []) V233 Tryz.ntmps233 (by rw [Tryz.results233]) mixed Tryz.func233 (by kernel_rfl) (by kernel_rfl) (by kernel_rfl) (by kernel_rfl) (by simp) h
def w3t_233:=w3t Tryz.prog 58 V233
def hk233 := aI @c233_3_s <| aI @c233_11_s <| aI @c233_10_s <| aI @c233_13_s <| aI @c233_12_s <| aI @c233_9_s <| aI @c233_8_s <| aI @c233_7_s <| aI @c233_15_s <| aI @c233_14_s <| aI @c233_6_s <| aI @c233_5_s <| aI @c233_4_s <| aI @c233_2_s <| aI @c233_1_s <| aI @c233_s <| @w3t_233
-- K233: ↓hk233
/-! ### slices.swapRangeCmpFunc[int] -/
def V245 : Nat → Bool := fun i => [0, 1, 2, 3, 4, 10, 13].elem i
def block245:=@s_block Tryz.prog 38 V245
def cond245:=@s_cond Tryz.prog 38 V245
def drwE245:=@s_drwE Tryz.prog 38 V245
def loop245:=@s_loop Tryz.prog 38 V245
def reg245:=@s_reg Tryz.prog 38 V245
def rend245:=@s_rend Tryz.prog 38 V245
def seq245:=@s_seq Tryz.prog 38 V245
noncomputable def c245:Code:=(Tryz.f245.body.getD .skip)
noncomputable def c245_1:=cR c245
noncomputable def c245_2:=cL c245_1
noncomputable def c245_3:=cL c245_2
noncomputable def c245_4:=cR c245_3
noncomputable def c245_5:=cR c245_4
noncomputable def c245_6:=cL c245_4
noncomputable def c245_7:=cL c245_6
noncomputable def b245_3:List Row:=[(0, 0, 1, 17, true), (0, 0, 2, 18, true), (0, 0, 1024, 19, true), (6, 6, 393216, 20, true), (0, 0, 1, 21, true), (0, 0, 4, 22, true), (0, 0, 1024, 23, true), (96, 96, 6291456, 24, true), (0, 0, 1, 25, true), (0, 0, 4, 26, true), (0, 0, 1024, 27, true), (1536, 1536, 100663296, 28, true), (2304, 3840, 150994944, 29, true), (4096, 7936, 268435456, 30, true), (0, 0, 1, 31, true), (0, 0, 2, 32, true), (0, 0, 1024, 33, true), (98304, 98304, 6442450944, 34, true), (147456, 245760, 9663676416, 35, true), (262144, 507904, 17179869184, 36, true), (540431, 1048335, 589824, 37, true), (1589007, 2096911, 69256347648, 0, false), (4194303, 4194303, 9437184, 38, true), (8388607, 8388607, 171798691840, 0, false)]
noncomputable def c245_8:=cL c245_3
noncomputable def c245_9:=cR c245_8
def c245_5_s:=rend245 c245_5 (fun N M G k e w =>
 M (e 10) fun t14 =>
 N (xv (xbin .add 3 (.tmp 14) (.const (.int .i64 1)) t14 (.int .i64 1))) w fun t15 w =>
 M t15 fun t10 =>
 k (Env.p e 10 t10) w)
def c245_7_s:=drwE245 c245_7 b245_3 24 (fun N T M G H Y k e w =>
 M (e 0) fun t16 =>
 M (e 1) fun t17 =>
 M (e 10) fun t18 =>
 T (FrX none w) (xv (xbin .add 3 (.tmp 17) (.tmp 18) t17 t18)) fun t19 =>
 M (e 0) fun t20 =>
 M (e 2) fun t21 =>
 M (e 10) fun t22 =>
 T (FrX none w) (xv (xbin .add 3 (.tmp 21) (.tmp 22) t21 t22)) fun t23 =>
 M (e 0) fun t24 =>
 M (e 2) fun t25 =>
 M (e 10) fun t26 =>
 T (FrX none w) (xv (xbin .add 3 (.tmp 25) (.tmp 26) t25 t26)) fun t27 =>
 T (FrX none w) (xv (indexAt 63 t24 t27)) fun t28 =>
 T (FrX (some []) w) (xv (loadAt 3 t28)) fun t29 =>
 M (e 0) fun t30 =>
 M (e 1) fun t31 =>
 M (e 10) fun t32 =>
 T (FrX none w) (xv (xbin .add 3 (.tmp 31) (.tmp 32) t31 t32)) fun t33 =>
 T (FrX none w) (xv (indexAt 63 t30 t33)) fun t34 =>
 T (FrX (some []) w) (xv (loadAt 3 t34)) fun t35 =>
 T (FrX none w) (xv (indexAt 63 t16 t19)) fun t36 =>
 N (xu (storeAt 3 t36 t29)) w fun _ w21 =>
 T (FrX none w21) (xv (indexAt 63 t20 t23)) fun t37 =>
 N (xu (storeAt 3 t37 t35)) w21 fun _ w23 =>
 k e w23)
def c245_6_s:=block245 c245_6 c245_7 1
def c245_4_s:=seq245 c245_4 c245_5 c245_6
def c245_9_s:=cond245 c245_9 (.exit 0) 13 .skip
def c245_8_s:=reg245 c245_8 c245_9 (fun N M G k e w =>
 M (e 10) fun t11 =>
 M (e 3) fun t12 =>
 N (xv (xbin .lss 3 (.tmp 11) (.tmp 12) t11 t12)) w fun t13 w =>
 k (Env.p e 13 t13) w)
def c245_3_s:=seq245 c245_3 c245_4 c245_8
def c245_2_s:=loop245 c245_2 c245_3
def c245_1_s:=block245 c245_1 c245_2 0
def c245_s:=reg245 c245 c245_1 (fun N M G k e w =>
 M (.int .i64 0) fun t10 =>
 k (Env.p e 10 t10) w)
theorem call245 {a0 a1 a2 a3 a4 : Value} {w : World} {R : Value → World → Prop} (h : W3 Tryz.prog 38 V245 c245 (retQ Tryz.prog [] R) (argE [a0, a1, a2, a3, a4]) w) : CallsN Tryz.prog 245 [a0, a1, a2, a3, a4] w R :=
 callsN_of_W3 (c := c245) (rs := []) V245 Tryz.ntmps245 (by rw [Tryz.results245]) mixed Tryz.func245 (by kernel_rfl) (by kernel_rfl) (by kernel_rfl) (by kernel_rfl) (by simp) h
def w3t_245:=w3t Tryz.prog 38 V245
def hk245 := aI @c245_5_s <| aI @c245_7_s <| aI @c245_6_s <| aI @c245_4_s <| aI @c245_9_s <| aI @c245_8_s <| aI @c245_3_s <| aI @c245_2_s <| aI @c245_1_s <| aI @c245_s <| @w3t_245
-- K245: ↓hk245
/-! ### slices.insertionSortCmpFunc[int] -/
def V208 : Nat → Bool := fun i => [0, 1, 2, 3, 8, 9, 14, 34].elem i
def block208:=@s_block Tryz.prog 53 V208
def cond208:=@s_cond Tryz.prog 53 V208
def drw208:=@s_drw Tryz.prog 53 V208
def drwE208:=@s_drwE Tryz.prog 53 V208
def loop208:=@s_loop Tryz.prog 53 V208
def reg208:=@s_reg Tryz.prog 53 V208
def rend208:=@s_rend Tryz.prog 53 V208
def seq208:=@s_seq Tryz.prog 53 V208
noncomputable def c208:Code:=(Tryz.f208.body.getD .skip)
noncomputable def c208_1:=cR c208
noncomputable def c208_2:=cL c208_1
noncomputable def c208_3:=cL c208_2
noncomputable def c208_4:=cR c208_3
noncomputable def c208_5:=cR c208_4
noncomputable def c208_6:=cL c208_4
noncomputable def c208_7:=cL c208_6
noncomputable def c208_8:=cR c208_7
noncomputable def c208_9:=cL c208_8
noncomputable def c208_10:=cL c208_9
noncomputable def c208_11:=cR c208_10
noncomputable def c208_12:=cR c208_11
noncomputable def c208_13:=cL c208_11
noncomputable def c208_14:=cL c208_13
noncomputable def b208_6:List Row:=[(0, 0, 1, 38, true), (0, 0, 512, 39, true), (0, 0, 1, 40, true), (0, 0, 512, 41, true), (8, 8, 1099511627776, 42, true), (0, 0, 1, 43, true), (0, 0, 512, 44, true), (64, 64, 8796093022208, 45, true), (160, 224, 21990232555520, 46, true), (256, 480, 35184372088832, 47, true), (0, 0, 1, 48, true), (0, 0, 512, 49, true), (3072, 3072, 422212465065984, 50, true), (4096, 7168, 562949953421312, 51, true), (9187, 16355, 412316860416, 52, true), (25571, 32739, 2322168557862912, 0, false), (65535, 65535, 2748779069440, 53, true), (131071, 131071, 5629499534213120, 0, false)]
noncomputable def c208_15:=cL c208_10
noncomputable def b208_4:List Row:=[(0, 0, 512, 19, true), (0, 0, 2, 20, true), (3, 3, 786432, 21, true), (4, 7, 1048576, 22, true), (8, 15, 2097160, 23, true), (8, 15, 2097153, 24, true), (8, 15, 2097664, 25, true), (104, 111, 27262976, 26, true), (136, 239, 35651584, 27, true), (8, 15, 2097153, 28, true), (8, 15, 2097664, 29, true), (1032, 1039, 270532608, 30, true), (2568, 3599, 673185792, 31, true), (4104, 7695, 1075838976, 32, true), (8472, 16383, 2220883968, 33, false), (16392, 32767, 4297064448, 34, true), (32776, 65535, 8592031744, 35, true)]
noncomputable def c208_16:=cR c208_15
noncomputable def c208_17:=cL c208_3
noncomputable def c208_18:=cR c208_17
def c208_5_s:=rend208 c208_5 (fun N M G k e w =>
 M (e 8) fun t15 =>
 N (xv (xbin .add 3 (.tmp 15) (.const (.int .i64 1)) t15 (.int .i64 1))) w fun t16 w =>
 M t16 fun t8 =>
 k (Env.p e 8 t8) w)
def c208_12_s:=rend208 c208_12 (fun N M G k e w =>
 M (e 9) fun t35 =>
 N (xv (xbin .sub 3 (.tmp 35) (.const (.int .i64 1)) t35 (.int .i64 1))) w fun t36 w =>
 M t36 fun t9 =>
 k (Env.p e 9 t9) w)
def c208_14_s:=drwE208 c208_14 b208_6 18 (fun N T M G H Y k e w =>
 M (e 0) fun t37 =>
 M (e 9) fun t38 =>
 M (e 0) fun t39 =>
 M (e 9) fun t40 =>
 T (FrX none w) (xv (xbin .sub 3 (.tmp 40) (.const (.int .i64 1)) t40 (.int .i64 1))) fun t41 =>
 M (e 0) fun t42 =>
 M (e 9) fun t43 =>
 T (FrX none w) (xv (xbin .sub 3 (.tmp 43) (.const (.int .i64 1)) t43 (.int .i64 1))) fun t44 =>
 T (FrX none w) (xv (indexAt 63 t42 t44)) fun t45 =>
 T (FrX (some []) w) (xv (loadAt 3 t45)) fun t46 =>
 M (e 0) fun t47 =>
 M (e 9) fun t48 =>
 T (FrX none w) (xv (indexAt 63 t47 t48)) fun t49 =>
 T (FrX (some []) w) (xv (loadAt 3 t49)) fun t50 =>
 T (FrX none w) (xv (indexAt 63 t37 t38)) fun t51 =>
 N (xu (storeAt 3 t51 t46)) w fun _ w15 =>
 T (FrX none w15) (xv (indexAt 63 t39 t41)) fun t52 =>
 N (xu (storeAt 3 t52 t50)) w15 fun _ w17 =>
 k e w17)
def c208_13_s:=block208 c208_13 c208_14 3
def c208_11_s:=seq208 c208_11 c208_12 c208_13
def c208_16_s:=cond208 c208_16 (.exit 2) 34 .skip
def c208_15_s:=drw208 c208_15 c208_16 b208_4 17 (fun N T M G H Y k e w =>
 M (e 9) fun t18 =>
 M (e 1) fun t19 =>
 T (FrX none w) (xv (xbin .gtr 3 (.tmp 18) (.tmp 19) t18 t19)) fun t20 =>
 M t20 fun t21 =>
 H (isB t21 true) (fun K => M (e 3) K) (fun t22 =>
 H (isB t21 true) (fun K => M (e 0) K) (fun t23 =>
 H (isB t21 true) (fun K => M (e 9) K) (fun t24 =>
 H (isB t21 true) (fun K => T (FrX none w) (xv (indexAt 63 t23 t24)) K) (fun t25 =>
 H (isB t21 true) (fun K => T (FrX (some []) w) (xv (loadAt 3 t25)) K) (fun t26 =>
 H (isB t21 true) (fun K => M (e 0) K) (fun t27 =>
 H (isB t21 true) (fun K => M (e 9) K) (fun t28 =>
 H (isB t21 true) (fun K => T (FrX none w) (xv (xbin .sub 3 (.tmp 28) (.const (.int .i64 1)) t28 (.int .i64 1))) K) (fun t29 =>
 H (isB t21 true) (fun K => T (FrX none w) (xv (indexAt 63 t27 t29)) K) (fun t30 =>
 H (isB t21 true) (fun K => T (FrX (some []) w) (xv (loadAt 3 t30)) K) (fun t31 =>
 G (isB t21 true) (fun K => N (xcall t22 [t26, t31]) w K) (fun t32 w14 =>
 H (isB t21 true) (fun K => T (FrX none w14) (xv (xbin .lss 3 (.tmp 32) (.const (.int .i64 0)) t32 (.int .i64 0))) K) (fun t33 =>
 T (FrX none w14) (xpick t21 t33 (.bool false)) fun t34 =>
 k (Env.p e 34 t34) w14)) w)))))))))))
def c208_10_s:=seq208 c208_10 c208_11 c208_15
def c208_9_s:=loop208 c208_9 c208_10
def c208_8_s:=block208 c208_8 c208_9 2
def c208_7_s:=reg208 c208_7 c208_8 (fun N M G k e w =>
 M (e 8) fun t17 =>
 M t17 fun t9 =>
 k (Env.p e 9 t9) w)
def c208_6_s:=block208 c208_6 c208_7 1
def c208_4_s:=seq208 c208_4 c208_5 c208_6
def c208_18_s:=cond208 c208_18 (.exit 0) 14 .skip
def c208_17_s:=reg208 c208_17 c208_18 (fun N M G k e w =>
 M (e 8) fun t12 =>
 M (e 2) fun t13 =>
 N (xv (xbin .lss 3 (.tmp 12) (.tmp 13) t12 t13)) w fun t14 w =>
 k (Env.p e 14 t14) w)
def c208_3_s:=seq208 c208_3 c208_4 c208_17
def c208_2_s:=loop208 c208_2 c208_3
def c208_1_s:=block208 c208_1 c208_2 0
def c208_s:=reg208 c208 c208_1 (fun N M G k e w =>
 M (e 1) fun t10 =>
 N (xv (xbin .add 3 (.tmp 10) (.const (.int .i64 1)) t10 (.int .i64 1))) w fun t11 w =>
 M t11 fun t8 =>
 k (Env.p e 8 t8) w)
theorem call208 {a0 a1 a2 a3 : Value} {w : World} {R : Value → World → Prop} (h : W3 Tryz.prog 53 V208 c208 (retQ Tryz.prog [] R) (argE [a0, a1, a2, a3]) w) : CallsN Tryz.prog 208 [a0, a1, a2, a3] w R :=
 callsN_of_W3 (c := c208) (rs := []) V208 Tryz.ntmps208 (by rw [Tryz.results208]) mixed Tryz.func208 (by kernel_rfl) (by kernel_rfl) (by kernel_rfl) (by kernel_rfl) (by simp) h
def w3t_208:=w3t Tryz.prog 53 V208
def hk208 := aI @c208_5_s <| aI @c208_12_s <| aI @c208_14_s <| aI @c208_13_s <| aI @c208_11_s <| aI @c208_16_s <| aI @c208_15_s <| aI @c208_10_s <| aI @c208_9_s <| aI @c208_8_s <| aI @c208_7_s <| aI @c208_6_s <| aI @c208_4_s <| aI @c208_18_s <| aI @c208_17_s <| aI @c208_3_s <| aI @c208_2_s <| aI @c208_1_s <| aI @c208_s <| @w3t_208
-- K208: ↓hk208
/-! ### slices.symMergeCmpFunc[int] -/
def V209 : Nat → Bool := fun i => [0, 1, 2, 3, 4, 10, 11, 12, 13, 14, 15, 16, 17, 18, 19, 20, 21, 22, 23, 24, 28, 33, 50, 58, 80, 85, 103, 110, 140, 151, 171, 185, 199, 213].elem i
def block209:=@s_block Tryz.prog 220 V209
def cond209:=@s_cond Tryz.prog 220 V209
def drw209:=@s_drw Tryz.prog 220 V209
def drwE209:=@s_drwE Tryz.prog 220 V209
def loop209:=@s_loop Tryz.prog 220 V209
def reg209:=@s_reg Tryz.prog 220 V209
def rend209:=@s_rend Tryz.prog 220 V209
def seq209:=@s_seq Tryz.prog 220 V209
noncomputable def c209:Code:=(Tryz.f209.body.getD .skip)
noncomputable def c209_1:=cR c209
noncomputable def c209_2:=cR c209_1
noncomputable def c209_3:=cR c209_2
noncomputable def c209_4:=cR c209_3
noncomputable def c209_5:=cR c209_4
noncomputable def c209_6:=cR c209_5
noncomputable def c209_7:=cR c209_6
noncomputable def c209_8:=cR c209_7
noncomputable def c209_9:=cR c209_8
noncomputable def c209_10:=cR c209_9
noncomputable def c209_11:=cR c209_10
noncomputable def c209_12:=cR c209_11
noncomputable def c209_13:=cL c209_12
noncomputable def c209_14:=cL c209_10
noncomputable def c209_15:=cR c209_14
noncomputable def c209_16:=cL c209_15
noncomputable def c209_17:=cL c209_9
noncomputable def c209_18:=cR c209_17
noncomputable def c209_19:=cL c209_18
noncomputable def c209_20:=cL c209_7
noncomputable def c209_21:=cL c209_20
noncomputable def c209_22:=cL c209_21
noncomputable def c209_23:=cR c209_22
noncomputable def c209_24:=cL c209_23
noncomputable def c209_25:=cR c209_24
noncomputable def b209_35:List Row:=[(0, 0, 16, 159, true), (0, 0, 1, 160, true), (0, 0, 4194304, 161, true), (0, 0, 8388608, 162, true), (12, 12, 4384504911992708754611054498148849058967797628928, 163, true), (18, 30, 6576757367989063131916581747223273588451696443392, 164, true), (32, 62, 11692013098647223345629478661730264157247460343808, 165, true), (0, 0, 1, 166, true), (0, 0, 8388608, 167, true), (384, 384, 140304157183766680147553743940763169886969524125696, 168, true), (512, 896, 187072209578355573530071658587684226515959365500928, 169, true), (1089, 2047, 397893820763338319480953195707008052101327634825216, 170, false), (2048, 4095, 748288838313422294120286634350736906063837462003712, 171, true), (4096, 8191, 1496577676626844588240573268701473812127674924007424, 172, true)]
noncomputable def c209_26:=cR c209_25
noncomputable def c209_27:=cL c209_26
noncomputable def c209_28:=cR c209_26
noncomputable def c209_29:=cL c209_22
noncomputable def c209_30:=cR c209_29
noncomputable def c209_31:=cL c209_5
noncomputable def c209_32:=cR c209_31
noncomputable def c209_33:=cL c209_32
noncomputable def c209_34:=cR c209_33
noncomputable def c209_35:=cR c209_32
noncomputable def c209_36:=cR c209_35
noncomputable def c209_37:=cL c209_1
noncomputable def c209_38:=cR c209_37
noncomputable def c209_39:=cL c209_38
noncomputable def c209_40:=cR c209_39
noncomputable def c209_41:=cR c209_40
noncomputable def c209_42:=cR c209_41
noncomputable def c209_43:=cL c209_42
noncomputable def c209_44:=cR c209_43
noncomputable def c209_45:=cL c209_44
noncomputable def c209_46:=cL c209_45
noncomputable def c209_47:=cR c209_46
noncomputable def c209_48:=cR c209_47
noncomputable def c209_49:=cL c209_47
noncomputable def c209_50:=cL c209_49
noncomputable def b209_23:List Row:=[(0, 0, 1, 114, true), (0, 0, 131072, 115, true), (0, 0, 1, 116, true), (0, 0, 131072, 117, true), (8, 8, 83076749736557242056487941267521536, 118, true), (0, 0, 1, 119, true), (0, 0, 131072, 120, true), (64, 64, 664613997892457936451903530140172288, 121, true), (160, 224, 1661534994731144841129758825350430720, 122, true), (256, 480, 2658455991569831745807614120560689152, 123, true), (0, 0, 1, 124, true), (0, 0, 131072, 125, true), (3072, 3072, 31901471898837980949691369446728269824, 126, true), (4096, 7168, 42535295865117307932921825928971026432, 127, true), (9187, 16355, 31153781151208965771182977975320576, 128, true), (25571, 32739, 175458095443608895223302531957005484032, 0, false), (65535, 65535, 207691874341393105141219853168803840, 129, true), (131071, 131071, 425352958651173079329218259289710264320, 0, false)]
noncomputable def c209_51:=cL c209_46
noncomputable def c209_52:=cR c209_51
noncomputable def c209_53:=cL c209_41
noncomputable def c209_54:=cL c209_53
noncomputable def c209_55:=cL c209_54
noncomputable def c209_56:=cR c209_55
noncomputable def c209_57:=cL c209_56
noncomputable def c209_58:=cR c209_57
noncomputable def b209_17:List Row:=[(0, 0, 16, 93, true), (0, 0, 1, 94, true), (0, 0, 4, 95, true), (6, 6, 29710560942849126597578981376, 96, true), (8, 14, 39614081257132168796771975168, 97, true), (0, 0, 1, 98, true), (0, 0, 65536, 99, true), (96, 96, 475368975085586025561263702016, 100, true), (128, 224, 633825300114114700748351602688, 101, true), (273, 511, 1351830522899635260189843652608, 102, false), (512, 1023, 2535301200456458802993406410752, 103, true), (1024, 2047, 5070602400912917605986812821504, 104, true)]
noncomputable def c209_59:=cR c209_58
noncomputable def c209_60:=cL c209_59
noncomputable def c209_61:=cR c209_59
noncomputable def c209_62:=cL c209_55
noncomputable def c209_63:=cR c209_62
noncomputable def c209_64:=cL c209
noncomputable def c209_65:=cR c209_64
noncomputable def c209_66:=cL c209_65
noncomputable def c209_67:=cR c209_66
noncomputable def c209_68:=cR c209_67
noncomputable def c209_69:=cR c209_68
noncomputable def c209_70:=cL c209_69
noncomputable def c209_71:=cR c209_70
noncomputable def c209_72:=cL c209_71
noncomputable def c209_73:=cL c209_72
noncomputable def c209_74:=cR c209_73
noncomputable def c209_75:=cR c209_74
noncomputable def c209_76:=cL c209_74
noncomputable def c209_77:=cL c209_76
noncomputable def b209_11:List Row:=[(0, 0, 1, 62, true), (0, 0, 8192, 63, true), (0, 0, 1, 64, true), (0, 0, 8192, 65, true), (8, 8, 18446744073709551616, 66, true), (0, 0, 1, 67, true), (0, 0, 8192, 68, true), (64, 64, 147573952589676412928, 69, true), (160, 224, 368934881474191032320, 70, true), (256, 480, 590295810358705651712, 71, true), (0, 0, 1, 72, true), (0, 0, 8192, 73, true), (3072, 3072, 7083549724304467820544, 74, true), (4096, 7168, 9444732965739290427392, 75, true), (9187, 16355, 6917529027641081856, 76, true), (25571, 32739, 38959523483674573012992, 0, false), (65535, 65535, 46116860184273879040, 77, true), (131071, 131071, 94447329657392904273920, 0, false)]
noncomputable def c209_78:=cL c209_73
noncomputable def c209_79:=cR c209_78
noncomputable def c209_80:=cL c209_68
noncomputable def c209_81:=cL c209_80
noncomputable def c209_82:=cL c209_81
noncomputable def c209_83:=cR c209_82
noncomputable def c209_84:=cL c209_83
noncomputable def c209_85:=cR c209_84
noncomputable def b209_5:List Row:=[(0, 0, 16, 41, true), (0, 0, 1, 42, true), (0, 0, 4096, 43, true), (6, 6, 6597069766656, 44, true), (8, 14, 8796093022208, 45, true), (0, 0, 1, 46, true), (0, 0, 2, 47, true), (96, 96, 105553116266496, 48, true), (128, 224, 140737488355328, 49, true), (273, 511, 300166674382848, 50, false), (512, 1023, 562949953421312, 51, true)]
noncomputable def c209_86:=cR c209_85
noncomputable def c209_87:=cL c209_86
noncomputable def c209_88:=cR c209_86
noncomputable def c209_89:=cL c209_82
noncomputable def c209_90:=cR c209_89
def c209_13_s:=rend209 c209_13 (fun N M G k e w =>
 M (e 0) fun t214 =>
 M (e 18) fun t215 =>
 M (e 24) fun t216 =>
 M (e 3) fun t217 =>
 M (e 4) fun t218 =>
 N (xcall (.func (.func 209) #[] #[]) [t214, t215, t216, t217, t218]) w fun t219 w =>
 k e w)
def c209_12_s:=cond209 c209_12 .skip 213 c209_13
def c209_11_s:=reg209 c209_11 c209_12 (fun N M G k e w =>
 M (e 18) fun t206 =>
 M (e 24) fun t207 =>
 N (xv (xbin .lss 3 (.tmp 206) (.tmp 207) t206 t207)) w fun t208 w =>
 M t208 fun t209 =>
 G (isB t209 true) (fun K => M (e 24) fun v => K v w) (fun t210 w =>
 G (isB t209 true) (fun K => M (e 3) fun v => K v w) (fun t211 w =>
 G (isB t209 true) (fun K => N (xv (xbin .lss 3 (.tmp 210) (.tmp 211) t210 t211)) w K) (fun t212 w =>
 N (xpick t209 t212 (.bool false)) w fun t213 w =>
 k (Env.p e 213 t213) w) w) w) w)
def c209_16_s:=rend209 c209_16 (fun N M G k e w =>
 M (e 0) fun t200 =>
 M (e 1) fun t201 =>
 M (e 20) fun t202 =>
 M (e 18) fun t203 =>
 M (e 4) fun t204 =>
 N (xcall (.func (.func 209) #[] #[]) [t200, t201, t202, t203, t204]) w fun t205 w =>
 k e w)
def c209_15_s:=cond209 c209_15 .skip 199 c209_16
def c209_14_s:=reg209 c209_14 c209_15 (fun N M G k e w =>
 M (e 1) fun t192 =>
 M (e 20) fun t193 =>
 N (xv (xbin .lss 3 (.tmp 192) (.tmp 193) t192 t193)) w fun t194 w =>
 M t194 fun t195 =>
 G (isB t195 true) (fun K => M (e 20) fun v => K v w) (fun t196 w =>
 G (isB t195 true) (fun K => M (e 18) fun v => K v w) (fun t197 w =>
 G (isB t195 true) (fun K => N (xv (xbin .lss 3 (.tmp 196) (.tmp 197) t196 t197)) w K) (fun t198 w =>
 N (xpick t195 t198 (.bool false)) w fun t199 w =>
 k (Env.p e 199 t199) w) w) w) w)
def c209_10_s:=seq209 c209_10 c209_11 c209_14
def c209_19_s:=rend209 c209_19 (fun N M G k e w =>
 M (e 0) fun t186 =>
 M (e 20) fun t187 =>
 M (e 2) fun t188 =>
 M (e 24) fun t189 =>
 M (e 4) fun t190 =>
 N (xcall (.func (.func 233) #[] #[]) [t186, t187, t188, t189, t190]) w fun t191 w =>
 k e w)
def c209_18_s:=cond209 c209_18 .skip 185 c209_19
def c209_17_s:=reg209 c209_17 c209_18 (fun N M G k e w =>
 M (e 20) fun t178 =>
 M (e 2) fun t179 =>
 N (xv (xbin .lss 3 (.tmp 178) (.tmp 179) t178 t179)) w fun t180 w =>
 M t180 fun t181 =>
 G (isB t181 true) (fun K => M (e 2) fun v => K v w) (fun t182 w =>
 G (isB t181 true) (fun K => M (e 24) fun v => K v w) (fun t183 w =>
 G (isB t181 true) (fun K => N (xv (xbin .lss 3 (.tmp 182) (.tmp 183) t182 t183)) w K) (fun t184 w =>
 N (xpick t181 t184 (.bool false)) w fun t185 w =>
 k (Env.p e 185 t185) w) w) w) w)
def c209_9_s:=seq209 c209_9 c209_10 c209_17
def c209_8_s:=reg209 c209_8 c209_9 (fun N M G k e w =>
 M (e 19) fun t175 =>
 M (e 20) fun t176 =>
 N (xv (xbin .sub 3 (.tmp 175) (.tmp 176) t175 t176)) w fun t177 w =>
 M t177 fun t24 =>
 k (Env.p e 24 t24) w)
def c209_27_s:=rend209 c209_27 (fun N M G k e w =>
 M (e 23) fun t172 =>
 N (xv (xbin .add 3 (.tmp 172) (.const (.int .i64 1)) t172 (.int .i64 1))) w fun t173 w =>
 M t173 fun t20 =>
 k (Env.p e 20 t20) w)
def c209_28_s:=rend209 c209_28 (fun N M G k e w =>
 M (e 23) fun t174 =>
 M t174 fun t21 =>
 k (Env.p e 21 t21) w)
def c209_26_s:=cond209 c209_26 c209_28 171 c209_27
def c209_25_s:=drw209 c209_25 c209_26 b209_35 14 (fun N T M G H Y k e w =>
 M (e 4) fun t158 =>
 M (e 0) fun t159 =>
 M (e 22) fun t160 =>
 M (e 23) fun t161 =>
 T (FrX none w) (xv (xbin .sub 3 (.tmp 160) (.tmp 161) t160 t161)) fun t162 =>
 T (FrX none w) (xv (indexAt 63 t159 t162)) fun t163 =>
 T (FrX (some []) w) (xv (loadAt 3 t163)) fun t164 =>
 M (e 0) fun t165 =>
 M (e 23) fun t166 =>
 T (FrX none w) (xv (indexAt 63 t165 t166)) fun t167 =>
 T (FrX (some []) w) (xv (loadAt 3 t167)) fun t168 =>
 N (xcall t158 [t164, t168]) w fun t169 w11 =>
 T (FrX none w11) (xv (xbin .lss 3 (.tmp 169) (.const (.int .i64 0)) t169 (.int .i64 0))) fun t170 =>
 T (FrX none w11) (xv (Op.unary .not t170)) fun t171 =>
 k (Env.p e 171 t171) w11)
def c209_24_s:=reg209 c209_24 c209_25 (fun N M G k e w =>
 M (e 20) fun t152 =>
 M (e 21) fun t153 =>
 N (xv (xbin .add 3 (.tmp 152) (.tmp 153) t152 t153)) w fun t154 w =>
 N (xv (convert 3 246 t154)) w fun t155 w =>
 N (xv (xbin .shr 246 (.tmp 155) (.const (.int .u64 1)) t155 (.int .u64 1))) w fun t156 w =>
 N (xv (convert 246 3 t156)) w fun t157 w =>
 M t157 fun t23 =>
 k (Env.p e 23 t23) w)
def c209_23_s:=block209 c209_23 c209_24 9
def c209_30_s:=cond209 c209_30 (.exit 8) 151 .skip
def c209_29_s:=reg209 c209_29 c209_30 (fun N M G k e w =>
 M (e 20) fun t149 =>
 M (e 21) fun t150 =>
 N (xv (xbin .lss 3 (.tmp 149) (.tmp 150) t149 t150)) w fun t151 w =>
 k (Env.p e 151 t151) w)
def c209_22_s:=seq209 c209_22 c209_23 c209_29
def c209_21_s:=loop209 c209_21 c209_22
def c209_20_s:=block209 c209_20 c209_21 8
def c209_7_s:=seq209 c209_7 c209_8 c209_20
def c209_6_s:=reg209 c209_6 c209_7 (fun N M G k e w =>
 M (e 19) fun t147 =>
 N (xv (xbin .sub 3 (.tmp 147) (.const (.int .i64 1)) t147 (.int .i64 1))) w fun t148 w =>
 M t148 fun t22 =>
 k (Env.p e 22 t22) w)
def c209_34_s:=rend209 c209_34 (fun N M G k e w =>
 M (e 18) fun t144 =>
 M t144 fun t21 =>
 k (Env.p e 21 t21) w)
def c209_33_s:=reg209 c209_33 c209_34 (fun N M G k e w =>
 M (e 19) fun t141 =>
 M (e 3) fun t142 =>
 N (xv (xbin .sub 3 (.tmp 141) (.tmp 142) t141 t142)) w fun t143 w =>
 M t143 fun t20 =>
 k (Env.p e 20 t20) w)
def c209_36_s:=rend209 c209_36 (fun N M G k e w =>
 M (e 2) fun t146 =>
 M t146 fun t21 =>
 k (Env.p e 21 t21) w)
def c209_35_s:=reg209 c209_35 c209_36 (fun N M G k e w =>
 M (e 1) fun t145 =>
 M t145 fun t20 =>
 k (Env.p e 20 t20) w)
def c209_32_s:=cond209 c209_32 c209_35 140 c209_33
def c209_31_s:=reg209 c209_31 c209_32 (fun N M G k e w =>
 M (e 2) fun t138 =>
 M (e 18) fun t139 =>
 N (xv (xbin .gtr 3 (.tmp 138) (.tmp 139) t138 t139)) w fun t140 w =>
 k (Env.p e 140 t140) w)
def c209_5_s:=seq209 c209_5 c209_6 c209_31
def c209_4_s:=reg209 c209_4 c209_5 (fun N M G k e w =>
 M (.int .i64 0) fun t20 =>
 M (.int .i64 0) fun t21 =>
 k (Env.p (Env.p e 20 t20) 21 t21) w)
def c209_3_s:=reg209 c209_3 c209_4 (fun N M G k e w =>
 M (e 18) fun t135 =>
 M (e 2) fun t136 =>
 N (xv (xbin .add 3 (.tmp 135) (.tmp 136) t135 t136)) w fun t137 w =>
 M t137 fun t19 =>
 k (Env.p e 19 t19) w)
def c209_2_s:=reg209 c209_2 c209_3 (fun N M G k e w =>
 M (e 1) fun t129 =>
 M (e 3) fun t130 =>
 N (xv (xbin .add 3 (.tmp 129) (.tmp 130) t129 t130)) w fun t131 w =>
 N (xv (convert 3 246 t131)) w fun t132 w =>
 N (xv (xbin .shr 246 (.tmp 132) (.const (.int .u64 1)) t132 (.int .u64 1))) w fun t133 w =>
 N (xv (convert 246 3 t133)) w fun t134 w =>
 M t134 fun t18 =>
 k (Env.p e 18 t18) w)
def c209_48_s:=rend209 c209_48 (fun N M G k e w =>
 M (e 17) fun t111 =>
 N (xv (xbin .sub 3 (.tmp 111) (.const (.int .i64 1)) t111 (.int .i64 1))) w fun t112 w =>
 M t112 fun t17 =>
 k (Env.p e 17 t17) w)
def c209_50_s:=drwE209 c209_50 b209_23 18 (fun N T M G H Y k e w =>
 M (e 0) fun t113 =>
 M (e 17) fun t114 =>
 M (e 0) fun t115 =>
 M (e 17) fun t116 =>
 T (FrX none w) (xv (xbin .sub 3 (.tmp 116) (.const (.int .i64 1)) t116 (.int .i64 1))) fun t117 =>
 M (e 0) fun t118 =>
 M (e 17) fun t119 =>
 T (FrX none w) (xv (xbin .sub 3 (.tmp 119) (.const (.int .i64 1)) t119 (.int .i64 1))) fun t120 =>
 T (FrX none w) (xv (indexAt 63 t118 t120)) fun t121 =>
 T (FrX (some []) w) (xv (loadAt 3 t121)) fun t122 =>
 M (e 0) fun t123 =>
 M (e 17) fun t124 =>
 T (FrX none w) (xv (indexAt 63 t123 t124)) fun t125 =>
 T (FrX (some []) w) (xv (loadAt 3 t125)) fun t126 =>
 T (FrX none w) (xv (indexAt 63 t113 t114)) fun t127 =>
 N (xu (storeAt 3 t127 t122)) w fun _ w15 =>
 T (FrX none w15) (xv (indexAt 63 t115 t117)) fun t128 =>
 N (xu (storeAt 3 t128 t126)) w15 fun _ w17 =>
 k e w17)
def c209_49_s:=block209 c209_49 c209_50 7
def c209_47_s:=seq209 c209_47 c209_48 c209_49
def c209_52_s:=cond209 c209_52 (.exit 6) 110 .skip
def c209_51_s:=reg209 c209_51 c209_52 (fun N M G k e w =>
 M (e 17) fun t108 =>
 M (e 14) fun t109 =>
 N (xv (xbin .gtr 3 (.tmp 108) (.tmp 109) t108 t109)) w fun t110 w =>
 k (Env.p e 110 t110) w)
def c209_46_s:=seq209 c209_46 c209_47 c209_51
def c209_45_s:=loop209 c209_45 c209_46
def c209_44_s:=block209 c209_44 c209_45 6
def c209_43_s:=reg209 c209_43 c209_44 (fun N M G k e w =>
 M (e 2) fun t107 =>
 M t107 fun t17 =>
 k (Env.p e 17 t17) w)
def c209_42_s:=seq209 c209_42 .ret c209_43
def c209_60_s:=rend209 c209_60 (fun N M G k e w =>
 M (e 16) fun t104 =>
 N (xv (xbin .add 3 (.tmp 104) (.const (.int .i64 1)) t104 (.int .i64 1))) w fun t105 w =>
 M t105 fun t14 =>
 k (Env.p e 14 t14) w)
def c209_61_s:=rend209 c209_61 (fun N M G k e w =>
 M (e 16) fun t106 =>
 M t106 fun t15 =>
 k (Env.p e 15 t15) w)
def c209_59_s:=cond209 c209_59 c209_61 103 c209_60
def c209_58_s:=drw209 c209_58 c209_59 b209_17 12 (fun N T M G H Y k e w =>
 M (e 4) fun t92 =>
 M (e 0) fun t93 =>
 M (e 2) fun t94 =>
 T (FrX none w) (xv (indexAt 63 t93 t94)) fun t95 =>
 T (FrX (some []) w) (xv (loadAt 3 t95)) fun t96 =>
 M (e 0) fun t97 =>
 M (e 16) fun t98 =>
 T (FrX none w) (xv (indexAt 63 t97 t98)) fun t99 =>
 T (FrX (some []) w) (xv (loadAt 3 t99)) fun t100 =>
 N (xcall t92 [t96, t100]) w fun t101 w9 =>
 T (FrX none w9) (xv (xbin .lss 3 (.tmp 101) (.const (.int .i64 0)) t101 (.int .i64 0))) fun t102 =>
 T (FrX none w9) (xv (Op.unary .not t102)) fun t103 =>
 k (Env.p e 103 t103) w9)
def c209_57_s:=reg209 c209_57 c209_58 (fun N M G k e w =>
 M (e 14) fun t86 =>
 M (e 15) fun t87 =>
 N (xv (xbin .add 3 (.tmp 86) (.tmp 87) t86 t87)) w fun t88 w =>
 N (xv (convert 3 246 t88)) w fun t89 w =>
 N (xv (xbin .shr 246 (.tmp 89) (.const (.int .u64 1)) t89 (.int .u64 1))) w fun t90 w =>
 N (xv (convert 246 3 t90)) w fun t91 w =>
 M t91 fun t16 =>
 k (Env.p e 16 t16) w)
def c209_56_s:=block209 c209_56 c209_57 5
def c209_63_s:=cond209 c209_63 (.exit 4) 85 .skip
def c209_62_s:=reg209 c209_62 c209_63 (fun N M G k e w =>
 M (e 14) fun t83 =>
 M (e 15) fun t84 =>
 N (xv (xbin .lss 3 (.tmp 83) (.tmp 84) t83 t84)) w fun t85 w =>
 k (Env.p e 85 t85) w)
def c209_55_s:=seq209 c209_55 c209_56 c209_62
def c209_54_s:=loop209 c209_54 c209_55
def c209_53_s:=block209 c209_53 c209_54 4
def c209_41_s:=seq209 c209_41 c209_42 c209_53
def c209_40_s:=reg209 c209_40 c209_41 (fun N M G k e w =>
 M (e 2) fun t82 =>
 M t82 fun t15 =>
 k (Env.p e 15 t15) w)
def c209_39_s:=reg209 c209_39 c209_40 (fun N M G k e w =>
 M (e 1) fun t81 =>
 M t81 fun t14 =>
 k (Env.p e 14 t14) w)
def c209_38_s:=cond209 c209_38 .skip 80 c209_39
def c209_37_s:=reg209 c209_37 c209_38 (fun N M G k e w =>
 M (e 3) fun t77 =>
 M (e 2) fun t78 =>
 N (xv (xbin .sub 3 (.tmp 77) (.tmp 78) t77 t78)) w fun t79 w =>
 N (xv (xbin .eql 3 (.tmp 79) (.const (.int .i64 1)) t79 (.int .i64 1))) w fun t80 w =>
 k (Env.p e 80 t80) w)
def c209_1_s:=seq209 c209_1 c209_2 c209_37
def c209_75_s:=rend209 c209_75 (fun N M G k e w =>
 M (e 13) fun t59 =>
 N (xv (xbin .add 3 (.tmp 59) (.const (.int .i64 1)) t59 (.int .i64 1))) w fun t60 w =>
 M t60 fun t13 =>
 k (Env.p e 13 t13) w)
def c209_77_s:=drwE209 c209_77 b209_11 18 (fun N T M G H Y k e w =>
 M (e 0) fun t61 =>
 M (e 13) fun t62 =>
 M (e 0) fun t63 =>
 M (e 13) fun t64 =>
 T (FrX none w) (xv (xbin .add 3 (.tmp 64) (.const (.int .i64 1)) t64 (.int .i64 1))) fun t65 =>
 M (e 0) fun t66 =>
 M (e 13) fun t67 =>
 T (FrX none w) (xv (xbin .add 3 (.tmp 67) (.const (.int .i64 1)) t67 (.int .i64 1))) fun t68 =>
 T (FrX none w) (xv (indexAt 63 t66 t68)) fun t69 =>
 T (FrX (some []) w) (xv (loadAt 3 t69)) fun t70 =>
 M (e 0) fun t71 =>
 M (e 13) fun t72 =>
 T (FrX none w) (xv (indexAt 63 t71 t72)) fun t73 =>
 T (FrX (some []) w) (xv (loadAt 3 t73)) fun t74 =>
 T (FrX none w) (xv (indexAt 63 t61 t62)) fun t75 =>
 N (xu (storeAt 3 t75 t70)) w fun _ w15 =>
 T (FrX none w15) (xv (indexAt 63 t63 t65)) fun t76 =>
 N (xu (storeAt 3 t76 t74)) w15 fun _ w17 =>
 k e w17)
def c209_76_s:=block209 c209_76 c209_77 3
def c209_74_s:=seq209 c209_74 c209_75 c209_76
def c209_79_s:=cond209 c209_79 (.exit 2) 58 .skip
def c209_78_s:=reg209 c209_78 c209_79 (fun N M G k e w =>
 M (e 13) fun t55 =>
 M (e 10) fun t56 =>
 N (xv (xbin .sub 3 (.tmp 56) (.const (.int .i64 1)) t56 (.int .i64 1))) w fun t57 w =>
 N (xv (xbin .lss 3 (.tmp 55) (.tmp 57) t55 t57)) w fun t58 w =>
 k (Env.p e 58 t58) w)
def c209_73_s:=seq209 c209_73 c209_74 c209_78
def c209_72_s:=loop209 c209_72 c209_73
def c209_71_s:=block209 c209_71 c209_72 2
def c209_70_s:=reg209 c209_70 c209_71 (fun N M G k e w =>
 M (e 1) fun t54 =>
 M t54 fun t13 =>
 k (Env.p e 13 t13) w)
def c209_69_s:=seq209 c209_69 .ret c209_70
def c209_87_s:=rend209 c209_87 (fun N M G k e w =>
 M (e 12) fun t51 =>
 N (xv (xbin .add 3 (.tmp 51) (.const (.int .i64 1)) t51 (.int .i64 1))) w fun t52 w =>
 M t52 fun t10 =>
 k (Env.p e 10 t10) w)
def c209_88_s:=rend209 c209_88 (fun N M G k e w =>
 M (e 12) fun t53 =>
 M t53 fun t11 =>
 k (Env.p e 11 t11) w)
def c209_86_s:=cond209 c209_86 c209_88 50 c209_87
def c209_85_s:=drw209 c209_85 c209_86 b209_5 11 (fun N T M G H Y k e w =>
 M (e 4) fun t40 =>
 M (e 0) fun t41 =>
 M (e 12) fun t42 =>
 T (FrX none w) (xv (indexAt 63 t41 t42)) fun t43 =>
 T (FrX (some []) w) (xv (loadAt 3 t43)) fun t44 =>
 M (e 0) fun t45 =>
 M (e 1) fun t46 =>
 T (FrX none w) (xv (indexAt 63 t45 t46)) fun t47 =>
 T (FrX (some []) w) (xv (loadAt 3 t47)) fun t48 =>
 N (xcall t40 [t44, t48]) w fun t49 w9 =>
 T (FrX none w9) (xv (xbin .lss 3 (.tmp 49) (.const (.int .i64 0)) t49 (.int .i64 0))) fun t50 =>
 k (Env.p e 50 t50) w9)
def c209_84_s:=reg209 c209_84 c209_85 (fun N M G k e w =>
 M (e 10) fun t34 =>
 M (e 11) fun t35 =>
 N (xv (xbin .add 3 (.tmp 34) (.tmp 35) t34 t35)) w fun t36 w =>
 N (xv (convert 3 246 t36)) w fun t37 w =>
 N (xv (xbin .shr 246 (.tmp 37) (.const (.int .u64 1)) t37 (.int .u64 1))) w fun t38 w =>
 N (xv (convert 246 3 t38)) w fun t39 w =>
 M t39 fun t12 =>
 k (Env.p e 12 t12) w)
def c209_83_s:=block209 c209_83 c209_84 1
def c209_90_s:=cond209 c209_90 (.exit 0) 33 .skip
def c209_89_s:=reg209 c209_89 c209_90 (fun N M G k e w =>
 M (e 10) fun t31 =>
 M (e 11) fun t32 =>
 N (xv (xbin .lss 3 (.tmp 31) (.tmp 32) t31 t32)) w fun t33 w =>
 k (Env.p e 33 t33) w)
def c209_82_s:=seq209 c209_82 c209_83 c209_89
def c209_81_s:=loop209 c209_81 c209_82
def c209_80_s:=block209 c209_80 c209_81 0
def c209_68_s:=seq209 c209_68 c209_69 c209_80
def c209_67_s:=reg209 c209_67 c209_68 (fun N M G k e w =>
 M (e 3) fun t30 =>
 M t30 fun t11 =>
 k (Env.p e 11 t11) w)
def c209_66_s:=reg209 c209_66 c209_67 (fun N M G k e w =>
 M (e 2) fun t29 =>
 M t29 fun t10 =>
 k (Env.p e 10 t10) w)
def c209_65_s:=cond209 c209_65 .skip 28 c209_66
def c209_64_s:=reg209 c209_64 c209_65 (fun N M G k e w =>
 M (e 2) fun t25 =>
 M (e 1) fun t26 =>
 N (xv (xbin .sub 3 (.tmp 25) (.tmp 26) t25 t26)) w fun t27 w =>
 N (xv (xbin .eql 3 (.tmp 27) (.const (.int .i64 1)) t27 (.int .i64 1))) w fun t28 w =>
 k (Env.p e 28 t28) w)
def c209_s:=seq209 c209 c209_1 c209_64
theorem call209 {a0 a1 a2 a3 a4 : Value} {w : World} {R : Value → World → Prop} (h : W3 Tryz.prog 220 V209 c209 (retQ Tryz.prog [] R) (argE [a0, a1, a2, a3, a4]) w) : CallsN Tryz.prog 209 [a0, a1, a2, a3, a4] w R :=
 callsN_of_W3 (c := c209) (rs := []) V209 Tryz.ntmps209 (by rw [Tryz.results209]) mixed Tryz.func209 (by kernel_rfl) (by kernel_rfl) (by kernel_rfl) (by kernel_rfl) (by simp) h
def w3t_209:=w3t Tryz.prog 220 V209
def hk209 := aI @c209_13_s <| aI @c209_12_s <| aI @c209_11_s <| aI @c209_16_s <| aI @c209_15_s <| aI @c209_14_s <| aI @c209_10_s <| aI @c209_19_s <| aI @c209_18_s <| aI @c209_17_s <| aI @c209_9_s <| aI @c209_8_s <| aI @c209_27_s <| aI @c209_28_s <| aI @c209_26_s <| aI @c209_25_s <| aI @c209_24_s <| aI @c209_23_s <| aI @c209_30_s <| aI @c209_29_s <| aI @c209_22_s <| aI @c209_21_s <| aI @c209_20_s <| aI @c209_7_s <| aI @c209_6_s <| aI @c209_34_s <| aI @c209_33_s <| aI @c209_36_s <| aI @c209_35_s <| aI @c209_32_s <| aI @c209_31_s <| aI @c209_5_s <| aI @c209_4_s <| aI @c209_3_s <| aI @c209_2_s <| aI @c209_48_s <| aI @c209_50_s <| aI @c209_49_s <| aI @c209_47_s <| aI @c209_52_s <| aI @c209_51_s <| aI @c209_46_s <| aI @c209_45_s <| aI @c209_44_s <| aI @c209_43_s <| aI @c209_42_s <| aI @c209_60_s <| aI @c209_61_s <| aI @c209_59_s <| aI @c209_58_s <| aI @c209_57_s <| aI @c209_56_s <| aI @c209_63_s <| aI @c209_62_s <| aI @c209_55_s <| aI @c209_54_s <| aI @c209_53_s <| aI @c209_41_s <| aI @c209_40_s <| aI @c209_39_s <| aI @c209_38_s <| aI @c209_37_s <| aI @c209_1_s <| aI @c209_75_s <| aI @c209_77_s <| aI @c209_76_s <| aI @c209_74_s <| aI @c209_79_s <| aI @c209_78_s <| aI @c209_73_s <| aI @c209_72_s <| aI @c209_71_s <| aI @c209_70_s <| aI @c209_69_s <| aI @c209_87_s <| aI @c209_88_s <| aI @c209_86_s <| aI @c209_85_s <| aI @c209_84_s <| aI @c209_83_s <| aI @c209_90_s <| aI @c209_89_s <| aI @c209_82_s <| aI @c209_81_s <| aI @c209_80_s <| aI @c209_68_s <| aI @c209_67_s <| aI @c209_66_s <| aI @c209_65_s <| aI @c209_64_s <| aI @c209_s <| @w3t_209
-- K209: ↓hk209
end
end Go.Proofs.YtomlgkecckffeaaGreat
