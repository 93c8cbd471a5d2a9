/- The equations of the code of some functions, written by the printer gen3.py: each is checked by the kernel. -/
import Derived.Test.YtgloomahpjpiiaaGreatQ0
import Derived.Test.YtgloomahpjpiiaaGreatCI
set_option linter.unusedVariables false
set_option linter.unusedSimpArgs false
set_option maxRecDepth 100000
namespace Go.Proofs.YtgloomahpjpiiaaGreat
open Go.VW
open Go.Instr (loadAt storeAt fieldAt indexAt)
noncomputable section
set_option linter.defProp false
variable {N : NT} {T : T3T} {M : MT} {G : GT} {H : HT} {Y : YT} {k : KT} {Q : Exit → Env → World → Prop} {e el eg : Env} {w u0 u1 u2 u3 u4 u5 u6 u7 u8 u9 : World}
/-! ### vouch/vouchlaw15.OriginPlays -/
def V3 : Nat → Bool := fun i => [0, 1, 2, 4, 5, 6, 7, 9, 15, 19, 45].elem i
def block3:=@s_block Tryz.prog 53 V3
def cond3:=@s_cond Tryz.prog 53 V3
def drw3:=@s_drw Tryz.prog 53 V3
def loop3:=@s_loop Tryz.prog 53 V3
def reg3:=@s_reg Tryz.prog 53 V3
def rend3:=@s_rend Tryz.prog 53 V3
def seq3:=@s_seq Tryz.prog 53 V3
noncomputable def c3:Code:=(Tryz.f3.body.getD .skip)
noncomputable def c3_1:=cR c3
noncomputable def c3_2:=cR c3_1
noncomputable def b3_3:List Row:=[(0, 0, 4, 11, true), (1, 1, 1024, 12, false), (0, 0, 4, 13, true), (6, 7, 4096, 14, false), (11, 15, 2048, 6, true), (31, 31, 8192, 7, true)]
noncomputable def c3_3:=cR c3_2
noncomputable def c3_4:=cR c3_3
noncomputable def c3_5:=cR c3_4
noncomputable def b3_11:List Row:=[(0, 0, 32, 47, true), (1, 1, 70368744177664, 48, false), (0, 0, 64, 49, true), (4, 4, 281474976710656, 50, true), (8, 12, 562949953421312, 51, true), (18, 31, 1125899906842624, 52, false), (34, 63, 2392537302040576, 53, false), (127, 127, 4503599627370496, 5, true)]
noncomputable def c3_6:=cL c3_4
noncomputable def c3_7:=cR c3_6
noncomputable def c3_8:=cL c3_7
noncomputable def c3_9:=cL c3_8
noncomputable def c3_10:=cR c3_9
noncomputable def c3_11:=cR c3_10
noncomputable def c3_12:=cL c3_10
noncomputable def c3_13:=cL c3_12
noncomputable def b3_9:List Row:=[(0, 0, 32, 23, true), (0, 0, 2, 24, true), (0, 0, 128, 25, true), (6, 6, 25165824, 26, true), (8, 14, 33554432, 27, true), (17, 31, 71303168, 28, false), (0, 0, 64, 29, true), (0, 0, 2, 30, true), (0, 0, 128, 31, true), (384, 384, 1610612736, 32, true), (512, 896, 2147483648, 33, true), (1120, 2047, 4563402752, 34, false), (2080, 4095, 8724152320, 35, false), (4096, 8191, 17179869184, 36, true), (12288, 16383, 34359738368, 37, true), (16384, 32767, 68719476768, 38, true), (49152, 65535, 206158430208, 39, false), (16384, 32767, 68719476800, 40, true), (147456, 163839, 618475290624, 41, true), (278528, 425983, 1168231104512, 42, true), (540672, 950271, 2267742732288, 43, true), (1064960, 1998847, 4466765987840, 44, true), (2179072, 4194303, 9139690405888, 45, true), (4210688, 8388607, 17660905521152, 46, true)]
noncomputable def c3_14:=cR c3_13
noncomputable def c3_15:=cL c3_14
noncomputable def c3_16:=cL c3_9
noncomputable def c3_17:=cR c3_16
noncomputable def c3_18:=cL c3_3
noncomputable def c3_19:=cR c3_18
noncomputable def c3_20:=cL c3_19
noncomputable def c3_21:=cL c3_1
noncomputable def c3_22:=cR c3_21
noncomputable def c3_23:=cL c3_22
def c3_5_s:=@drw3 c3_5 .ret 11 (rO (cL c3_5)) b3_11 8 (fun N T M G H Y k e w =>
 M (e 5) fun t46 =>
 M (e 6) fun t48 =>
 T (FrX none w) (xnil t48) fun t49 =>
 T (FrX none w) (xv (fieldAt 52 t49 2)) fun t50 =>
 N (xcall (.func (.func 14) #[] #[]) [t46, (.int .i64 1), (.int .i64 1048576)]) w fun t47 w1 =>
 N (xcall (.func (.func 15) #[] #[]) [t50, (.int .i64 1), (.int .i64 1048576)]) w1 fun t51 w5 =>
 N (xcall (.func (.func 13) #[] #[]) [t47, t51]) w5 fun t52 w6 =>
 M t52 fun t4 =>
 k (Env.p e 4 t4) w6) (by kernel_rfl) (by kernel_rfl) (by kernel_rfl) (by intros; kernel_rfl)
def c3_11_s:=@rend3 c3_11 8 (rO c3_11) (fun N M G k e w =>
 M (e 7) fun t20 =>
 N (xv (xbin .add 3 (.tmp 20) (.const (.int .i64 1)) t20 (.int .i64 1))) w fun t21 w =>
 M t21 fun t7 =>
 k (Env.p e 7 t7) w) (by kernel_rfl) (by intros; kernel_rfl)
def c3_15_s:=@reg3 c3_15 .ret 10 (rO (cL c3_15)) (fun N M G k e w =>
 M (.bool false) fun t4 =>
 k (Env.p e 4 t4) w) (by kernel_rfl) (by intros; kernel_rfl)
def c3_14_s:=@cond3 c3_14 .skip 45 c3_15 (by kernel_rfl) (by kernel_rfl)
def c3_13_s:=@drw3 c3_13 c3_14 9 (rO (cL c3_13)) b3_9 24 (fun N T M G H Y k e w =>
 M (e 5) fun t22 =>
 M (e 1) fun t23 =>
 M (e 7) fun t24 =>
 T (FrX none w) (xv (indexAt 24 t23 t24)) fun t25 =>
 T (FrX (some []) w) (xv (loadAt 40 t25)) fun t26 =>
 M (e 6) fun t28 =>
 M (e 1) fun t29 =>
 M (e 7) fun t30 =>
 T (FrX none w) (xv (indexAt 24 t29 t30)) fun t31 =>
 T (FrX (some []) w) (xv (loadAt 40 t31)) fun t32 =>
 N (xcall (.func (.func 10) #[] #[]) [t22, t26]) w fun t27 w5 =>
 Y true (xv (loadAt 40 t31)) t32 w w5 ∧ (N (xcall (.func (.func 11) #[] #[]) [t28, t32]) w5 fun t33 w11 =>
 N (xcall (.func (.func 9) #[] #[]) [t27, t33]) w11 fun t34 w12 =>
 T (FrX none w12) (xv (Op.unary .not t34)) fun t35 =>
 M t35 fun t36 =>
 H (isB t36 false) (fun K => M (e 5) K) (fun t37 =>
 H (isB t36 false) (fun K => M (e 6) K) (fun t39 =>
 H (isB t36 false) (fun K => T (FrX none w12) (xnil t39) K) (fun t40 =>
 H (isB t36 false) (fun K => T (FrX none w12) (xv (fieldAt 52 t40 1)) K) (fun t41 =>
 H (isB t36 false) (fun K => T (FrX none w12) (xv (fieldAt 44 t41 2)) K) (fun t42 =>
 H (isB t36 false) (fun K => T (FrX (some []) w12) (xv (loadAt 2 t42)) K) (fun t43 =>
 G (isB t36 false) (fun K => N (xcall (.func (.func 12) #[] #[]) [t37]) w12 K) (fun t38 w16 =>
 Y (isB t36 false) (xv (loadAt 2 t42)) t43 w12 w16 ∧ (H (isB t36 false) (fun K => T (FrX none w16) (xv (xbin .neq 2 (.tmp 38) (.tmp 43) t38 t43)) K) (fun t44 =>
 T (FrX none w16) (xpick t36 (.bool true) t44) fun t45 =>
 k (Env.p e 45 t45) w16))) w12)))))))) (by kernel_rfl) (by kernel_rfl) (by kernel_rfl) (by intros; kernel_rfl)
def c3_12_s:=@block3 c3_12 c3_13 1 (by kernel_rfl)
def c3_10_s:=@seq3 c3_10 c3_11 c3_12 (by kernel_rfl)
def c3_17_s:=@cond3 c3_17 (.exit 0) 19 .skip (by kernel_rfl) (by kernel_rfl)
def c3_16_s:=@reg3 c3_16 c3_17 7 (rO (cL c3_16)) (fun N M G k e w =>
 M (e 7) fun t16 =>
 M (e 1) fun t17 =>
 N (builtin Builtin.len #[24] 3 ([false]).toArray ([t17]).toArray) w fun t18 w =>
 N (xv (xbin .lss 3 (.tmp 16) (.tmp 18) t16 t18)) w fun t19 w =>
 k (Env.p e 19 t19) w) (by kernel_rfl) (by intros; kernel_rfl)
def c3_9_s:=@seq3 c3_9 c3_10 c3_16 (by kernel_rfl)
def c3_8_s:=@loop3 c3_8 c3_9 (by kernel_rfl)
def c3_7_s:=@block3 c3_7 c3_8 0 (by kernel_rfl)
def c3_6_s:=@reg3 c3_6 c3_7 6 (rO (cL c3_6)) (fun N M G k e w =>
 M (.int .i64 0) fun t7 =>
 k (Env.p e 7 t7) w) (by kernel_rfl) (by intros; kernel_rfl)
def c3_4_s:=@seq3 c3_4 c3_5 c3_6 (by kernel_rfl)
def c3_20_s:=@reg3 c3_20 .ret 5 (rO (cL c3_20)) (fun N M G k e w =>
 M (.bool false) fun t4 =>
 k (Env.p e 4 t4) w) (by kernel_rfl) (by intros; kernel_rfl)
def c3_19_s:=@cond3 c3_19 .skip 15 c3_20 (by kernel_rfl) (by kernel_rfl)
def c3_18_s:=@reg3 c3_18 c3_19 4 (rO (cL c3_18)) (fun N M G k e w =>
 M (e 5) fun t14 =>
 N (xv (xbin .eql 26 (.tmp 14) (.const (.pointer none)) t14 (.pointer none))) w fun t15 w =>
 k (Env.p e 15 t15) w) (by kernel_rfl) (by intros; kernel_rfl)
def c3_3_s:=@seq3 c3_3 c3_4 c3_18 (by kernel_rfl)
def c3_2_s:=@drw3 c3_2 c3_3 3 (rO (cL c3_2)) b3_3 6 (fun N T M G H Y k e w =>
 T (FrX (some []) w) (xv (loadAt 23 (e 2))) fun t10 =>
 T (FrX (some []) w) (xv (loadAt 23 (e 2))) fun t12 =>
 N (xcall (.func (.func 7) #[] #[]) [t10]) w fun t11 w1 =>
 Y true (xv (loadAt 23 (e 2))) t12 w w1 ∧ (N (xcall (.func (.func 8) #[] #[]) [t12]) w1 fun t13 w3 =>
 M t11 fun t5 =>
 M t13 fun t6 =>
 k (Env.p (Env.p e 5 t5) 6 t6) w3)) (by kernel_rfl) (by kernel_rfl) (by kernel_rfl) (by intros; kernel_rfl)
def c3_23_s:=@reg3 c3_23 .ret 2 (rO (cL c3_23)) (fun N M G k e w =>
 M (.bool false) fun t4 =>
 k (Env.p e 4 t4) w) (by kernel_rfl) (by intros; kernel_rfl)
def c3_22_s:=@cond3 c3_22 .skip 9 c3_23 (by kernel_rfl) (by kernel_rfl)
def c3_21_s:=@reg3 c3_21 c3_22 1 (rO (cL c3_21)) (fun N M G k e w =>
 N (xcall (.func (.func 6) #[] #[]) []) w fun t8 w =>
 N (xv (Op.unary .not t8)) w fun t9 w =>
 k (Env.p e 9 t9) w) (by kernel_rfl) (by intros; kernel_rfl)
def c3_1_s:=@seq3 c3_1 c3_2 c3_21 (by kernel_rfl)
def c3_s:=@reg3 c3 c3_1 0 (rO (cL c3)) (fun N M G k e w =>
 N (xv (Instr.box 23 (e 0))) w fun t2 w =>
 M (.bool false) fun t4 =>
 k (Env.p (Env.p e 2 t2) 4 t4) w) (by kernel_rfl) (by intros; kernel_rfl)
theorem call3 {a0 a1 : Value} {w : World} {R : Value → World → Prop} (h : W3 Tryz.prog 53 V3 c3 (retQ Tryz.prog [.tmp 4] R) (argE [a0, a1]) w) : CallsN Tryz.prog 3 [a0, a1] w R :=
 callsN_of_W3 (c := c3) (rs := [.tmp 4]) V3 Tryz.ntmps3 (by rw [Tryz.results3]) mixed Tryz.func3 (by kernel_rfl) (by kernel_rfl) (by kernel_rfl) (by kernel_rfl) (by simp) h
def w3t_3:=w3t Tryz.prog 53 V3
def hk3 := aI @c3_5_s <| aI @c3_11_s <| aI @c3_15_s <| aI @c3_14_s <| aI @c3_13_s <| aI @c3_12_s <| aI @c3_10_s <| aI @c3_17_s <| aI @c3_16_s <| aI @c3_9_s <| aI @c3_8_s <| aI @c3_7_s <| aI @c3_6_s <| aI @c3_4_s <| aI @c3_20_s <| aI @c3_19_s <| aI @c3_18_s <| aI @c3_3_s <| aI @c3_2_s <| aI @c3_23_s <| aI @c3_22_s <| aI @c3_21_s <| aI @c3_1_s <| aI @c3_s <| @w3t_3
-- K3: ↓hk3
end
end Go.Proofs.YtgloomahpjpiiaaGreat
