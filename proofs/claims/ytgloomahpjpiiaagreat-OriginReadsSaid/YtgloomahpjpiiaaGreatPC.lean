/- The equations of the code of some functions, written by the printer gen3.py: each is checked by the kernel. -/
import Derived.Test.YtgloomahpjpiiaaGreatQ0
import Derived.Test.YtgloomahpjpiiaaGreatCI
set_option linter.unusedVariables false
set_option linter.unusedSimpArgs false
set_option maxRecDepth 100000
namespace Go.Proofs.YtgloomahpjpiiaaGreat
open Go.VW
open Go.Instr (loadAt storeAt fieldAt indexAt)
noncomputable section
set_option linter.defProp false
variable {N : NT} {T : T3T} {M : MT} {G : GT} {H : HT} {Y : YT} {k : KT} {Q : Exit → Env → World → Prop} {e el eg : Env} {w u0 u1 u2 u3 u4 u5 u6 u7 u8 u9 : World}
/-! ### vouch/vouchref15.New -/
def V8 : Nat → Bool := fun i => [0, 1, 2].elem i
def drw8:=@s_drw Tryz.prog 13 V8
def reg8:=@s_reg Tryz.prog 13 V8
noncomputable def c8:Code:=(Tryz.f8.body.getD .skip)
noncomputable def c8_1:=cR c8
noncomputable def c8_2:=cR c8_1
noncomputable def b8_2:List Row:=[(0, 0, 2, 6, true), (0, 0, 2, 7, true), (2, 2, 64, 8, true), (4, 6, 128, 9, false), (8, 14, 256, 10, true), (16, 30, 512, 11, true), (33, 63, 1056, 12, true), (64, 127, 2048, 13, false), (255, 255, 4096, 3, true)]
def c8_2_s:=@drw8 c8_2 .ret 2 (rO (cL c8_2)) b8_2 9 (fun N T M G H Y k e w =>
 T (FrX (some []) w) (xv (loadAt 23 (e 1))) fun t5 =>
 T (FrX none w) (xv (fieldAt 23 (e 1) 5)) fun t6 =>
 T (FrX (some []) w) (xv (loadAt 3 t6)) fun t7 =>
 N (xcall (.func (.func 29) #[] #[]) [t7]) w fun t8 w3 =>
 Y true (xv (loadAt 23 (e 1))) t5 w w3 ∧ (T (FrX none w3) (xnil t8) fun t9 =>
 T (FrX (some []) w3) (xv (loadAt 44 t9)) fun t10 =>
 T (FrX none w3) (xv (Instr.build 52 ([(0, t5), (1, t10)]).toArray)) fun t11 =>
 N (xv (Instr.box 52 t11)) w3 fun t12 w7 =>
 M t12 fun t2 =>
 k (Env.p e 2 t2) w7)) (by kernel_rfl) (by kernel_rfl) (by kernel_rfl) (by intros; kernel_rfl)
def c8_1_s:=@reg8 c8_1 c8_2 1 (rO (cL c8_1)) (fun N M G k e w =>
 N (xv (loadAt 23 (e 1))) w fun t3 w =>
 N (xcall (.func (.func 28) #[] #[]) [t3]) w fun t4 w =>
 N (xu (storeAt 23 (e 1) t4)) w fun _ w =>
 k e w) (by kernel_rfl) (by intros; kernel_rfl)
def c8_s:=@reg8 c8 c8_1 0 (rO (cL c8)) (fun N M G k e w =>
 N (xv (Instr.box 23 (e 0))) w fun t1 w =>
 M (.pointer none) fun t2 =>
 k (Env.p (Env.p e 1 t1) 2 t2) w) (by kernel_rfl) (by intros; kernel_rfl)
theorem call8 {a0 : Value} {w : World} {R : Value → World → Prop} (h : W3 Tryz.prog 13 V8 c8 (retQ Tryz.prog [.tmp 2] R) (argE [a0]) w) : CallsN Tryz.prog 8 [a0] w R :=
 callsN_of_W3 (c := c8) (rs := [.tmp 2]) V8 Tryz.ntmps8 (by rw [Tryz.results8]) mixed Tryz.func8 (by kernel_rfl) (by kernel_rfl) (by kernel_rfl) (by kernel_rfl) (by simp) h
def w3t_8:=w3t Tryz.prog 13 V8
def hk8 := aI @c8_2_s <| aI @c8_1_s <| aI @c8_s <| @w3t_8
-- K8: ↓hk8
/-! ### (*vouch/vouchref15.Origin) . Handle -/
def V11 : Nat → Bool := fun i => [0, 1, 3, 4, 5, 6, 7, 10, 13, 14, 19, 24, 45, 64, 73].elem i
def block11:=@s_block Tryz.prog 88 V11
def cond11:=@s_cond Tryz.prog 88 V11
def drw11:=@s_drw Tryz.prog 88 V11
def drwE11:=@s_drwE Tryz.prog 88 V11
def loop11:=@s_loop Tryz.prog 88 V11
def reg11:=@s_reg Tryz.prog 88 V11
def rend11:=@s_rend Tryz.prog 88 V11
def seq11:=@s_seq Tryz.prog 88 V11
noncomputable def c11:Code:=(Tryz.f11.body.getD .skip)
noncomputable def c11_1:=cR c11
noncomputable def c11_2:=cR c11_1
noncomputable def c11_3:=cR c11_2
noncomputable def c11_4:=cR c11_3
noncomputable def c11_5:=cL c11_3
noncomputable def c11_6:=cR c11_5
noncomputable def c11_7:=cL c11_6
noncomputable def c11_8:=cR c11_7
noncomputable def c11_9:=cL c11_8
noncomputable def c11_10:=cR c11_8
noncomputable def c11_11:=cR c11_10
noncomputable def c11_12:=cL c11_11
noncomputable def c11_13:=cR c11_11
noncomputable def c11_14:=cR c11_13
noncomputable def c11_15:=cL c11_14
noncomputable def b11_10:List Row:=[(0, 0, 1, 27, true), (1, 1, 67108864, 28, true), (2, 3, 134217728, 29, true), (0, 0, 8, 30, true), (8, 8, 536870912, 31, true), (20, 31, 1342177280, 32, false), (63, 63, 2147483648, 7, true)]
noncomputable def c11_16:=cR c11_15
noncomputable def c11_17:=cR c11_16
noncomputable def c11_18:=cL c11_17
noncomputable def c11_19:=cL c11_18
noncomputable def c11_20:=cR c11_19
noncomputable def c11_21:=cR c11_20
noncomputable def c11_22:=cL c11_20
noncomputable def c11_23:=cL c11_22
noncomputable def b11_14:List Row:=[(0, 0, 32, 49, true), (0, 0, 8, 50, true), (2, 2, 562949953421312, 51, true), (0, 0, 64, 52, true), (0, 0, 128, 53, true), (24, 24, 6755399441055744, 54, true), (32, 56, 9007199254740992, 55, true), (64, 120, 18014398509481984, 56, true), (0, 0, 64, 57, true), (0, 0, 128, 58, true), (768, 768, 216172782113783808, 59, true), (1024, 1792, 288230376151711744, 60, true), (2048, 3840, 576460752303423488, 61, true), (4228, 8190, 1190076201532653568, 62, true), (8192, 16382, 2305843009213693952, 63, false), (16385, 32767, 4611967493404098560, 64, false), (65535, 65535, 9223372036854775808, 6, true)]
noncomputable def c11_24:=cL c11_19
noncomputable def b11_12:List Row:=[(0, 0, 128, 33, true), (0, 0, 64, 34, true), (2, 2, 8589934592, 35, true), (5, 7, 21474836480, 36, true), (8, 15, 34359738368, 37, true), (16, 31, 68719476744, 38, true), (48, 63, 206158430208, 39, true), (16, 31, 68719476737, 40, true), (144, 159, 618475290624, 41, true), (272, 415, 1168231104512, 42, true), (528, 927, 2267742732288, 43, true), (1040, 1951, 4466765987840, 44, true), (2128, 4095, 9139690405888, 45, true), (4112, 8191, 17660905521152, 46, true)]
noncomputable def c11_25:=cR c11_24
noncomputable def c11_26:=cR c11_14
noncomputable def c11_27:=cR c11_26
noncomputable def c11_28:=cL c11_27
noncomputable def b11_16:List Row:=[(0, 0, 8, 67, true), (1, 1, 73786976294838206464, 68, true), (0, 0, 1, 69, true), (4, 4, 295147905179352825856, 70, true), (8, 12, 590295810358705651712, 71, true), (16, 28, 1180591620717411303424, 72, true), (32, 60, 2361183241434822606848, 73, true), (66, 127, 4869940435459321626624, 74, true)]
noncomputable def c11_29:=cR c11_28
noncomputable def c11_30:=cL c11_29
noncomputable def b11_17:List Row:=[(0, 0, 32, 75, true), (0, 0, 8, 76, true), (2, 2, 37778931862957161709568, 77, true), (0, 0, 8, 78, true), (8, 8, 151115727451828646838272, 79, true), (0, 0, 1, 80, true), (32, 32, 604462909807314587353088, 81, true), (64, 96, 1208925819614629174706176, 82, true), (128, 224, 2417851639229258349412352, 83, true), (256, 480, 4835703278458516698824704, 84, true), (532, 1022, 10049195875546605014745088, 85, true), (1024, 2046, 19342813113834066795298816, 86, false), (2049, 4095, 38704515693599612171452416, 87, false), (8191, 8191, 77371252455336267181195264, 6, true)]
noncomputable def c11_31:=cL c11_2
noncomputable def c11_32:=cR c11_31
noncomputable def c11_33:=cL c11_32
def c11_4_s:=@reg11 c11_4 .ret 18 (rO (cL c11_4)) (fun N M G k e w =>
 M (e 5) fun t87 =>
 M t87 fun t4 =>
 k (Env.p e 4 t4) w) (by kernel_rfl) (by intros; kernel_rfl)
def c11_9_s:=@reg11 c11_9 .ret 6 (rO (cL c11_9)) (fun N M G k e w =>
 M (e 0) fun t16 =>
 N (xv (loadAt 40 (e 3))) w fun t17 w =>
 N (xcall (.func (.func 35) #[] #[]) [t16, t17]) w fun t18 w =>
 M t18 fun t4 =>
 k (Env.p e 4 t4) w) (by kernel_rfl) (by intros; kernel_rfl)
def c11_12_s:=@reg11 c11_12 .ret 8 (rO (cL c11_12)) (fun N M G k e w =>
 M (e 0) fun t21 =>
 N (xv (loadAt 40 (e 3))) w fun t22 w =>
 N (xcall (.func (.func 36) #[] #[]) [t21, t22]) w fun t23 w =>
 M t23 fun t4 =>
 k (Env.p e 4 t4) w) (by kernel_rfl) (by intros; kernel_rfl)
def c11_21_s:=@rend11 c11_21 13 (rO c11_21) (fun N M G k e w =>
 M (e 7) fun t46 =>
 N (xv (xbin .add 3 (.tmp 46) (.const (.int .i64 1)) t46 (.int .i64 1))) w fun t47 w =>
 M t47 fun t7 =>
 k (Env.p e 7 t7) w) (by kernel_rfl) (by intros; kernel_rfl)
def c11_23_s:=@drwE11 c11_23 14 (rO c11_23) b11_14 17 (fun N T M G H Y k e w =>
 M (e 5) fun t48 =>
 T (FrX none w) (xv (fieldAt 40 (e 3) 1)) fun t49 =>
 T (FrX (some []) w) (xv (loadAt 3 t49)) fun t50 =>
 M (e 6) fun t51 =>
 M (e 7) fun t52 =>
 T (FrX none w) (xv (indexAt 45 t51 t52)) fun t53 =>
 T (FrX none w) (xv (fieldAt 86 t53 0)) fun t54 =>
 T (FrX (some []) w) (xv (loadAt 2 t54)) fun t55 =>
 M (e 6) fun t56 =>
 M (e 7) fun t57 =>
 T (FrX none w) (xv (indexAt 45 t56 t57)) fun t58 =>
 T (FrX none w) (xv (fieldAt 86 t58 1)) fun t59 =>
 T (FrX (some []) w) (xv (loadAt 38 t59)) fun t60 =>
 T (FrX none w) (xv (Instr.build 40 ([(0, (.int .i64 8)), (1, t50), (11, t55), (13, t60)]).toArray)) fun t61 =>
 N (xv (Instr.buildSlice 24 1 ([(0, t61)]).toArray)) w fun t62 w14 =>
 N (builtin Builtin.append #[24, 24] 24 ([false, false]).toArray ([t48, t62]).toArray) w14 fun t63 w15 =>
 M t63 fun t5 =>
 k (Env.p e 5 t5) w15) (by kernel_rfl) (by kernel_rfl) (by kernel_rfl) (by intros; kernel_rfl)
def c11_22_s:=@block11 c11_22 c11_23 2 (by kernel_rfl)
def c11_20_s:=@seq11 c11_20 c11_21 c11_22 (by kernel_rfl)
def c11_25_s:=@cond11 c11_25 (.exit 1) 45 .skip (by kernel_rfl) (by kernel_rfl)
def c11_24_s:=@drw11 c11_24 c11_25 12 (rO (cL c11_24)) b11_12 14 (fun N T M G H Y k e w =>
 M (e 7) fun t32 =>
 M (e 6) fun t33 =>
 T (FrX (some []) w) (builtin Builtin.len #[45] 3 ([false]).toArray ([t33]).toArray) fun t34 =>
 T (FrX none w) (xv (xbin .lss 3 (.tmp 32) (.tmp 34) t32 t34)) fun t35 =>
 M t35 fun t36 =>
 H (isB t36 true) (fun K => T (FrX none w) (xv (fieldAt 40 (e 3) 1)) K) (fun t37 =>
 H (isB t36 true) (fun K => T (FrX (some []) w) (xv (loadAt 3 t37)) K) (fun t38 =>
 H (isB t36 true) (fun K => M (e 0) K) (fun t39 =>
 H (isB t36 true) (fun K => T (FrX none w) (xnil t39) K) (fun t40 =>
 H (isB t36 true) (fun K => T (FrX none w) (xv (fieldAt 52 t40 0)) K) (fun t41 =>
 H (isB t36 true) (fun K => T (FrX none w) (xv (fieldAt 23 t41 0)) K) (fun t42 =>
 H (isB t36 true) (fun K => T (FrX (some []) w) (xv (loadAt 3 t42)) K) (fun t43 =>
 H (isB t36 true) (fun K => T (FrX none w) (xv (xbin .lss 3 (.tmp 38) (.tmp 43) t38 t43)) K) (fun t44 =>
 T (FrX none w) (xpick t36 t44 (.bool false)) fun t45 =>
 k (Env.p e 45 t45) w))))))))) (by kernel_rfl) (by kernel_rfl) (by kernel_rfl) (by intros; kernel_rfl)
def c11_19_s:=@seq11 c11_19 c11_20 c11_24 (by kernel_rfl)
def c11_18_s:=@loop11 c11_18 c11_19 (by kernel_rfl)
def c11_17_s:=@block11 c11_17 c11_18 1 (by kernel_rfl)
def c11_16_s:=@reg11 c11_16 c11_17 11 (rO (cL c11_16)) (fun N M G k e w =>
 M (.int .i64 0) fun t7 =>
 k (Env.p e 7 t7) w) (by kernel_rfl) (by intros; kernel_rfl)
def c11_15_s:=@drw11 c11_15 c11_16 10 (rO (cL c11_15)) b11_10 7 (fun N T M G H Y k e w =>
 M (e 0) fun t26 =>
 T (FrX none w) (xnil t26) fun t27 =>
 T (FrX none w) (xv (fieldAt 52 t27 2)) fun t28 =>
 T (FrX none w) (xv (fieldAt 40 (e 3) 11)) fun t29 =>
 T (FrX (some []) w) (xv (loadAt 2 t29)) fun t30 =>
 N (xcall (.func (.func 15) #[] #[]) [t28, t30, (.int .i64 16)]) w fun t31 w5 =>
 M t31 fun t6 =>
 k (Env.p e 6 t6) w5) (by kernel_rfl) (by kernel_rfl) (by kernel_rfl) (by intros; kernel_rfl)
def c11_30_s:=@drwE11 c11_30 17 (rO c11_30) b11_17 14 (fun N T M G H Y k e w =>
 M (e 5) fun t74 =>
 T (FrX none w) (xv (fieldAt 40 (e 3) 1)) fun t75 =>
 T (FrX (some []) w) (xv (loadAt 3 t75)) fun t76 =>
 T (FrX none w) (xv (fieldAt 40 (e 3) 2)) fun t77 =>
 T (FrX (some []) w) (xv (loadAt 3 t77)) fun t78 =>
 M (e 0) fun t79 =>
 T (FrX none w) (xnil t79) fun t80 =>
 T (FrX none w) (xv (fieldAt 52 t80 1)) fun t81 =>
 T (FrX none w) (xv (fieldAt 44 t81 2)) fun t82 =>
 T (FrX (some []) w) (xv (loadAt 2 t82)) fun t83 =>
 T (FrX none w) (xv (Instr.build 40 ([(0, (.int .i64 11)), (1, t76), (2, t78), (11, t83)]).toArray)) fun t84 =>
 N (xv (Instr.buildSlice 24 1 ([(0, t84)]).toArray)) w fun t85 w11 =>
 N (builtin Builtin.append #[24, 24] 24 ([false, false]).toArray ([t74, t85]).toArray) w11 fun t86 w12 =>
 M t86 fun t5 =>
 k (Env.p e 5 t5) w12) (by kernel_rfl) (by kernel_rfl) (by kernel_rfl) (by intros; kernel_rfl)
def c11_29_s:=@cond11 c11_29 .skip 73 c11_30 (by kernel_rfl) (by kernel_rfl)
def c11_28_s:=@drw11 c11_28 c11_29 16 (rO (cL c11_28)) b11_16 8 (fun N T M G H Y k e w =>
 T (FrX none w) (xv (fieldAt 40 (e 3) 1)) fun t66 =>
 T (FrX (some []) w) (xv (loadAt 3 t66)) fun t67 =>
 M (e 0) fun t68 =>
 T (FrX none w) (xnil t68) fun t69 =>
 T (FrX none w) (xv (fieldAt 52 t69 0)) fun t70 =>
 T (FrX none w) (xv (fieldAt 23 t70 0)) fun t71 =>
 T (FrX (some []) w) (xv (loadAt 3 t71)) fun t72 =>
 T (FrX none w) (xv (xbin .lss 3 (.tmp 67) (.tmp 72) t67 t72)) fun t73 =>
 k (Env.p e 73 t73) w) (by kernel_rfl) (by kernel_rfl) (by kernel_rfl) (by intros; kernel_rfl)
def c11_27_s:=@cond11 c11_27 .skip 64 c11_28 (by kernel_rfl) (by kernel_rfl)
def c11_26_s:=@reg11 c11_26 c11_27 15 (rO (cL c11_26)) (fun N M G k e w =>
 N (xv (xbin .eql 3 (.tmp 13) (.const (.int .i64 10)) (e 13) (.int .i64 10))) w fun t65 w =>
 M t65 fun t64 =>
 k (Env.p e 64 t64) w) (by kernel_rfl) (by intros; kernel_rfl)
def c11_14_s:=@cond11 c11_14 c11_26 24 c11_15 (by kernel_rfl) (by kernel_rfl)
def c11_13_s:=@reg11 c11_13 c11_14 9 (rO (cL c11_13)) (fun N M G k e w =>
 N (xv (xbin .eql 3 (.tmp 13) (.const (.int .i64 9)) (e 13) (.int .i64 9))) w fun t25 w =>
 M t25 fun t24 =>
 k (Env.p e 24 t24) w) (by kernel_rfl) (by intros; kernel_rfl)
def c11_11_s:=@cond11 c11_11 c11_13 19 c11_12 (by kernel_rfl) (by kernel_rfl)
def c11_10_s:=@reg11 c11_10 c11_11 7 (rO (cL c11_10)) (fun N M G k e w =>
 N (xv (xbin .eql 3 (.tmp 13) (.const (.int .i64 5)) (e 13) (.int .i64 5))) w fun t20 w =>
 M t20 fun t19 =>
 k (Env.p e 19 t19) w) (by kernel_rfl) (by intros; kernel_rfl)
def c11_8_s:=@cond11 c11_8 c11_10 14 c11_9 (by kernel_rfl) (by kernel_rfl)
def c11_7_s:=@reg11 c11_7 c11_8 5 (rO (cL c11_7)) (fun N M G k e w =>
 N (xv (xbin .eql 3 (.tmp 13) (.const (.int .i64 1)) (e 13) (.int .i64 1))) w fun t15 w =>
 M t15 fun t14 =>
 k (Env.p e 14 t14) w) (by kernel_rfl) (by intros; kernel_rfl)
def c11_6_s:=@block11 c11_6 c11_7 0 (by kernel_rfl)
def c11_5_s:=@reg11 c11_5 c11_6 4 (rO (cL c11_5)) (fun N M G k e w =>
 N (xv (fieldAt 40 (e 3) 0)) w fun t12 w =>
 N (xv (loadAt 3 t12)) w fun t13 w =>
 k (Env.p e 13 t13) w) (by kernel_rfl) (by intros; kernel_rfl)
def c11_3_s:=@seq11 c11_3 c11_4 c11_5 (by kernel_rfl)
def c11_33_s:=@reg11 c11_33 .ret 3 (rO (cL c11_33)) (fun N M G k e w =>
 M (e 5) fun t11 =>
 M t11 fun t4 =>
 k (Env.p e 4 t4) w) (by kernel_rfl) (by intros; kernel_rfl)
def c11_32_s:=@cond11 c11_32 .skip 10 c11_33 (by kernel_rfl) (by kernel_rfl)
def c11_31_s:=@reg11 c11_31 c11_32 2 (rO (cL c11_31)) (fun N M G k e w =>
 N (xv (loadAt 40 (e 3))) w fun t8 w =>
 N (xcall (.func (.func 34) #[] #[]) [t8]) w fun t9 w =>
 N (xv (xbin .neq 3 (.tmp 9) (.const (.int .i64 0)) t9 (.int .i64 0))) w fun t10 w =>
 k (Env.p e 10 t10) w) (by kernel_rfl) (by intros; kernel_rfl)
def c11_2_s:=@seq11 c11_2 c11_3 c11_31 (by kernel_rfl)
def c11_1_s:=@reg11 c11_1 c11_2 1 (rO (cL c11_1)) (fun N M G k e w =>
 M (.slice none 0 0) fun t5 =>
 k (Env.p e 5 t5) w) (by kernel_rfl) (by intros; kernel_rfl)
def c11_s:=@reg11 c11 c11_1 0 (rO (cL c11)) (fun N M G k e w =>
 N (xv (Instr.box 40 (e 1))) w fun t3 w =>
 M (.slice none 0 0) fun t4 =>
 k (Env.p (Env.p e 3 t3) 4 t4) w) (by kernel_rfl) (by intros; kernel_rfl)
theorem call11 {a0 a1 : Value} {w : World} {R : Value → World → Prop} (h : W3 Tryz.prog 88 V11 c11 (retQ Tryz.prog [.tmp 4] R) (argE [a0, a1]) w) : CallsN Tryz.prog 11 [a0, a1] w R :=
 callsN_of_W3 (c := c11) (rs := [.tmp 4]) V11 Tryz.ntmps11 (by rw [Tryz.results11]) mixed Tryz.func11 (by kernel_rfl) (by kernel_rfl) (by kernel_rfl) (by kernel_rfl) (by simp) h
def w3t_11:=w3t Tryz.prog 88 V11
def hk11 := aI @c11_4_s <| aI @c11_9_s <| aI @c11_12_s <| aI @c11_21_s <| aI @c11_23_s <| aI @c11_22_s <| aI @c11_20_s <| aI @c11_25_s <| aI @c11_24_s <| aI @c11_19_s <| aI @c11_18_s <| aI @c11_17_s <| aI @c11_16_s <| aI @c11_15_s <| aI @c11_30_s <| aI @c11_29_s <| aI @c11_28_s <| aI @c11_27_s <| aI @c11_26_s <| aI @c11_14_s <| aI @c11_13_s <| aI @c11_11_s <| aI @c11_10_s <| aI @c11_8_s <| aI @c11_7_s <| aI @c11_6_s <| aI @c11_5_s <| aI @c11_3_s <| aI @c11_33_s <| aI @c11_32_s <| aI @c11_31_s <| aI @c11_2_s <| aI @c11_1_s <| aI @c11_s <| @w3t_11
-- K11: ↓hk11
/-! ### (*vouch/vouchref15.Origin) . commit -/
def V35 : Nat → Bool := fun i => [0, 1, 3, 4, 5, 6, 7, 8, 9, 10, 11, 23, 29, 66, 81].elem i
def block35:=@s_block Tryz.prog 93 V35
def cond35:=@s_cond Tryz.prog 93 V35
def drw35:=@s_drw Tryz.prog 93 V35
def drwE35:=@s_drwE Tryz.prog 93 V35
def loop35:=@s_loop Tryz.prog 93 V35
def reg35:=@s_reg Tryz.prog 93 V35
def rend35:=@s_rend Tryz.prog 93 V35
def seq35:=@s_seq Tryz.prog 93 V35
noncomputable def c35:Code:=(Tryz.f35.body.getD .skip)
noncomputable def c35_1:=cR c35
noncomputable def b35_1:List Row:=[(0, 0, 1, 13, true), (0, 0, 8, 14, true), (2, 2, 8192, 15, true), (1, 1, 4096, 16, true), (8, 9, 32768, 17, true), (20, 31, 81920, 18, true), (32, 63, 131072, 19, true), (0, 0, 0, 6, false), (255, 255, 262176, 0, false)]
noncomputable def c35_2:=cR c35_1
noncomputable def c35_3:=cR c35_2
noncomputable def c35_4:=cR c35_3
noncomputable def c35_5:=cR c35_4
noncomputable def c35_6:=cR c35_5
noncomputable def c35_7:=cR c35_6
noncomputable def c35_8:=cL c35_6
noncomputable def c35_9:=cR c35_8
noncomputable def c35_10:=cL c35_9
noncomputable def c35_11:=cR c35_10
noncomputable def c35_12:=cR c35_11
noncomputable def c35_13:=cR c35_12
noncomputable def c35_14:=cL c35_13
noncomputable def c35_15:=cL c35_14
noncomputable def c35_16:=cR c35_15
noncomputable def c35_17:=cR c35_16
noncomputable def c35_18:=cL c35_16
noncomputable def c35_19:=cL c35_18
noncomputable def c35_20:=cL c35_15
noncomputable def c35_21:=cR c35_20
noncomputable def c35_22:=cL c35_4
noncomputable def c35_23:=cR c35_22
noncomputable def c35_24:=cL c35_23
noncomputable def b35_6:List Row:=[(0, 0, 1, 32, true), (1, 1, 2147483648, 33, true), (2, 3, 4294967296, 34, true), (0, 0, 8, 35, true), (8, 8, 17179869184, 36, true), (20, 31, 42949672960, 37, false), (32, 63, 68719476736, 31, true), (64, 127, 1073741824, 38, true), (64, 127, 1073741824, 39, true), (255, 255, 137438953472, 8, true), (1023, 1023, 274877906944, 9, true)]
noncomputable def c35_25:=cR c35_24
noncomputable def c35_26:=cR c35_25
noncomputable def b35_8:List Row:=[(0, 0, 1, 45, true), (0, 0, 8, 46, true), (2, 2, 35184372088832, 47, true), (0, 0, 32, 48, true), (1, 1, 17592186044416, 49, true), (16, 17, 281474976710656, 50, true), (47, 63, 633318697598976, 51, true), (79, 127, 1266637395197952, 0, false)]
noncomputable def c35_27:=cL c35_2
noncomputable def c35_28:=cR c35_27
noncomputable def c35_29:=cL c35_28
def c35_7_s:=@reg35 c35_7 .ret 17 (rO (cL c35_7)) (fun N M G k e w =>
 M (e 9) fun t92 =>
 M t92 fun t4 =>
 k (Env.p e 4 t4) w) (by kernel_rfl) (by intros; kernel_rfl)
def c35_17_s:=@rend35 c35_17 15 (rO c35_17) (fun N M G k e w =>
 M (e 11) fun t82 =>
 N (xv (xbin .add 3 (.tmp 82) (.const (.int .i64 1)) t82 (.int .i64 1))) w fun t83 w =>
 M t83 fun t11 =>
 k (Env.p e 11 t11) w) (by kernel_rfl) (by intros; kernel_rfl)
def c35_19_s:=@rend35 c35_19 16 (rO c35_19) (fun N M G k e w =>
 M (e 9) fun t84 =>
 M (e 11) fun t85 =>
 N (xv (fieldAt 49 (e 5) 1)) w fun t86 w =>
 N (xv (loadAt 2 t86)) w fun t87 w =>
 M (e 10) fun t88 =>
 N (xv (Instr.build 40 ([(0, (.int .i64 8)), (1, t85), (11, t87), (13, t88)]).toArray)) w fun t89 w =>
 N (xv (Instr.buildSlice 24 1 ([(0, t89)]).toArray)) w fun t90 w =>
 N (builtin Builtin.append #[24, 24] 24 ([false, false]).toArray ([t84, t90]).toArray) w fun t91 w =>
 M t91 fun t9 =>
 k (Env.p e 9 t9) w) (by kernel_rfl) (by intros; kernel_rfl)
def c35_18_s:=@block35 c35_18 c35_19 1 (by kernel_rfl)
def c35_16_s:=@seq35 c35_16 c35_17 c35_18 (by kernel_rfl)
def c35_21_s:=@cond35 c35_21 (.exit 0) 81 .skip (by kernel_rfl) (by kernel_rfl)
def c35_20_s:=@reg35 c35_20 c35_21 14 (rO (cL c35_20)) (fun N M G k e w =>
 M (e 11) fun t75 =>
 M (e 0) fun t76 =>
 N (xnil t76) w fun t77 w =>
 N (xv (fieldAt 52 t77 0)) w fun t78 w =>
 N (xv (fieldAt 23 t78 0)) w fun t79 w =>
 N (xv (loadAt 3 t79)) w fun t80 w =>
 N (xv (xbin .lss 3 (.tmp 75) (.tmp 80) t75 t80)) w fun t81 w =>
 k (Env.p e 81 t81) w) (by kernel_rfl) (by intros; kernel_rfl)
def c35_15_s:=@seq35 c35_15 c35_16 c35_20 (by kernel_rfl)
def c35_14_s:=@loop35 c35_14 c35_15 (by kernel_rfl)
def c35_13_s:=@block35 c35_13 c35_14 0 (by kernel_rfl)
def c35_12_s:=@reg35 c35_12 c35_13 13 (rO (cL c35_12)) (fun N M G k e w =>
 M (.int .i64 0) fun t11 =>
 k (Env.p e 11 t11) w) (by kernel_rfl) (by intros; kernel_rfl)
def c35_11_s:=@reg35 c35_11 c35_12 12 (rO (cL c35_11)) (fun N M G k e w =>
 M (e 0) fun t70 =>
 N (xnil t70) w fun t71 w =>
 N (xv (fieldAt 52 t71 2)) w fun t72 w =>
 M (e 10) fun t73 =>
 N (xcall (.func (.func 68) #[] #[]) [t72, t73]) w fun t74 w =>
 k e w) (by kernel_rfl) (by intros; kernel_rfl)
def c35_10_s:=@reg35 c35_10 c35_11 11 (rO (cL c35_10)) (fun N M G k e w =>
 N (xv (fieldAt 40 (e 3) 12)) w fun t67 w =>
 N (xv (loadAt 37 t67)) w fun t68 w =>
 N (xcall (.func (.func 67) #[] #[]) [t68]) w fun t69 w =>
 M t69 fun t10 =>
 k (Env.p e 10 t10) w) (by kernel_rfl) (by intros; kernel_rfl)
def c35_9_s:=@cond35 c35_9 .skip 66 c35_10 (by kernel_rfl) (by kernel_rfl)
def c35_8_s:=@reg35 c35_8 c35_9 10 (rO (cL c35_8)) (fun N M G k e w =>
 M (e 6) fun t61 =>
 M t61 fun t62 =>
 G (isB t62 true) (fun K => N (xv (fieldAt 49 (e 5) 2)) w K) (fun t63 w =>
 G (isB t62 true) (fun K => N (xv (loadAt 3 t63)) w K) (fun t64 w =>
 G (isB t62 true) (fun K => N (xv (xbin .eql 3 (.tmp 64) (.const (.int .i64 0)) t64 (.int .i64 0))) w K) (fun t65 w =>
 N (xpick t62 t65 (.bool false)) w fun t66 w =>
 k (Env.p e 66 t66) w) w) w) w) (by kernel_rfl) (by intros; kernel_rfl)
def c35_6_s:=@seq35 c35_6 c35_7 c35_8 (by kernel_rfl)
def c35_5_s:=@reg35 c35_5 c35_6 9 (rO (cL c35_5)) (fun N M G k e w =>
 N (xv (fieldAt 40 (e 3) 3)) w fun t51 w =>
 N (xv (loadAt 3 t51)) w fun t52 w =>
 N (xv (fieldAt 40 (e 3) 5)) w fun t53 w =>
 N (xv (loadAt 3 t53)) w fun t54 w =>
 N (xv (fieldAt 49 (e 5) 1)) w fun t55 w =>
 N (xv (loadAt 2 t55)) w fun t56 w =>
 N (xv (fieldAt 49 (e 5) 2)) w fun t57 w =>
 N (xv (loadAt 3 t57)) w fun t58 w =>
 N (xv (Instr.build 40 ([(0, (.int .i64 2)), (3, t52), (5, t54), (11, t56), (10, t58)]).toArray)) w fun t59 w =>
 N (xv (Instr.buildSlice 24 1 ([(0, t59)]).toArray)) w fun t60 w =>
 M t60 fun t9 =>
 k (Env.p e 9 t9) w) (by kernel_rfl) (by intros; kernel_rfl)
def c35_26_s:=@drwE35 c35_26 8 (rO c35_26) b35_8 8 (fun N T M G H Y k e w =>
 M (e 0) fun t44 =>
 T (FrX none w) (xv (fieldAt 40 (e 3) 3)) fun t45 =>
 T (FrX (some []) w) (xv (loadAt 3 t45)) fun t46 =>
 T (FrX (some []) w) (xv (loadAt 49 (e 5))) fun t47 =>
 T (FrX none w) (xnil t44) fun t48 =>
 T (FrX none w) (xv (fieldAt 52 t48 3)) fun t49 =>
 T (FrX none w) (xv (indexAt 50 t49 t46)) fun t50 =>
 N (xu (storeAt 49 t50 t47)) w fun _ w7 =>
 k e w7) (by kernel_rfl) (by kernel_rfl) (by kernel_rfl) (by intros; kernel_rfl)
def c35_25_s:=@reg35 c35_25 c35_26 7 (rO (cL c35_25)) (fun N M G k e w =>
 N (xv (fieldAt 40 (e 3) 5)) w fun t39 w =>
 N (xv (loadAt 3 t39)) w fun t40 w =>
 M (e 7) fun t41 =>
 M (e 8) fun t42 =>
 N (xv (Instr.build 49 ([(0, t40), (1, t41), (2, t42)]).toArray)) w fun t43 w =>
 N (xu (storeAt 49 (e 5) t43)) w fun _ w =>
 k e w) (by kernel_rfl) (by intros; kernel_rfl)
def c35_24_s:=@drw35 c35_24 c35_25 6 (rO (cL c35_24)) b35_6 11 (fun N T M G H Y k e w =>
 M (e 0) fun t31 =>
 T (FrX none w) (xnil t31) fun t32 =>
 T (FrX none w) (xv (fieldAt 52 t32 1)) fun t33 =>
 T (FrX none w) (xv (fieldAt 40 (e 3) 12)) fun t34 =>
 T (FrX (some []) w) (xv (loadAt 37 t34)) fun t35 =>
 N (xcall (.func (.func 66) #[] #[]) [t33, t35]) w fun t36 w5 =>
 M t36 fun t30 =>
 T (FrX none w5) (xv (Instr.extract t30 0)) fun t37 =>
 T (FrX none w5) (xv (Instr.extract t30 1)) fun t38 =>
 M t37 fun t7 =>
 M t38 fun t8 =>
 k (Env.p (Env.p e 7 t7) 8 t8) w5) (by kernel_rfl) (by kernel_rfl) (by kernel_rfl) (by intros; kernel_rfl)
def c35_23_s:=@cond35 c35_23 .skip 29 c35_24 (by kernel_rfl) (by kernel_rfl)
def c35_22_s:=@reg35 c35_22 c35_23 5 (rO (cL c35_22)) (fun N M G k e w =>
 M (e 6) fun t29 =>
 k (Env.p e 29 t29) w) (by kernel_rfl) (by intros; kernel_rfl)
def c35_4_s:=@seq35 c35_4 c35_5 c35_22 (by kernel_rfl)
def c35_3_s:=@reg35 c35_3 c35_4 4 (rO (cL c35_3)) (fun N M G k e w =>
 N (xv (fieldAt 40 (e 3) 5)) w fun t24 w =>
 N (xv (loadAt 3 t24)) w fun t25 w =>
 N (xv (fieldAt 49 (e 5) 0)) w fun t26 w =>
 N (xv (loadAt 3 t26)) w fun t27 w =>
 N (xv (xbin .gtr 3 (.tmp 25) (.tmp 27) t25 t27)) w fun t28 w =>
 M t28 fun t6 =>
 k (Env.p e 6 t6) w) (by kernel_rfl) (by intros; kernel_rfl)
def c35_29_s:=@reg35 c35_29 .ret 3 (rO (cL c35_29)) (fun N M G k e w =>
 M (.slice none 0 0) fun t4 =>
 k (Env.p e 4 t4) w) (by kernel_rfl) (by intros; kernel_rfl)
def c35_28_s:=@cond35 c35_28 .skip 23 c35_29 (by kernel_rfl) (by kernel_rfl)
def c35_27_s:=@reg35 c35_27 c35_28 2 (rO (cL c35_27)) (fun N M G k e w =>
 N (xv (fieldAt 40 (e 3) 5)) w fun t19 w =>
 N (xv (loadAt 3 t19)) w fun t20 w =>
 N (xv (fieldAt 49 (e 5) 0)) w fun t21 w =>
 N (xv (loadAt 3 t21)) w fun t22 w =>
 N (xv (xbin .lss 3 (.tmp 20) (.tmp 22) t20 t22)) w fun t23 w =>
 k (Env.p e 23 t23) w) (by kernel_rfl) (by intros; kernel_rfl)
def c35_2_s:=@seq35 c35_2 c35_3 c35_27 (by kernel_rfl)
def c35_1_s:=@drw35 c35_1 c35_2 1 (rO (cL c35_1)) b35_1 9 (fun N T M G H Y k e w =>
 M (e 0) fun t12 =>
 T (FrX none w) (xv (fieldAt 40 (e 3) 3)) fun t13 =>
 T (FrX (some []) w) (xv (loadAt 3 t13)) fun t14 =>
 T (FrX none w) (xnil t12) fun t15 =>
 T (FrX none w) (xv (fieldAt 52 t15 3)) fun t16 =>
 T (FrX none w) (xv (indexAt 50 t16 t14)) fun t17 =>
 T (FrX (some []) w) (xv (loadAt 49 t17)) fun t18 =>
 N (xv (Instr.alloc 49 true (.tuple #[]))) w fun t5 w7 =>
 Y true (xv (loadAt 49 t17)) t18 w w7 ∧ (Y true (xv (loadAt 3 t13)) t14 w w7 ∧ (N (xu (storeAt 49 t5 t18)) w7 fun _ w8 =>
 k (Env.p e 5 t5) w8))) (by kernel_rfl) (by kernel_rfl) (by kernel_rfl) (by intros; kernel_rfl)
def c35_s:=@reg35 c35 c35_1 0 (rO (cL c35)) (fun N M G k e w =>
 N (xv (Instr.box 40 (e 1))) w fun t3 w =>
 M (.slice none 0 0) fun t4 =>
 k (Env.p (Env.p e 3 t3) 4 t4) w) (by kernel_rfl) (by intros; kernel_rfl)
theorem call35 {a0 a1 : Value} {w : World} {R : Value → World → Prop} (h : W3 Tryz.prog 93 V35 c35 (retQ Tryz.prog [.tmp 4] R) (argE [a0, a1]) w) : CallsN Tryz.prog 35 [a0, a1] w R :=
 callsN_of_W3 (c := c35) (rs := [.tmp 4]) V35 Tryz.ntmps35 (by rw [Tryz.results35]) mixed Tryz.func35 (by kernel_rfl) (by kernel_rfl) (by kernel_rfl) (by kernel_rfl) (by simp) h
def w3t_35:=w3t Tryz.prog 93 V35
def hk35 := aI @c35_7_s <| aI @c35_17_s <| aI @c35_19_s <| aI @c35_18_s <| aI @c35_16_s <| aI @c35_21_s <| aI @c35_20_s <| aI @c35_15_s <| aI @c35_14_s <| aI @c35_13_s <| aI @c35_12_s <| aI @c35_11_s <| aI @c35_10_s <| aI @c35_9_s <| aI @c35_8_s <| aI @c35_6_s <| aI @c35_5_s <| aI @c35_26_s <| aI @c35_25_s <| aI @c35_24_s <| aI @c35_23_s <| aI @c35_22_s <| aI @c35_4_s <| aI @c35_3_s <| aI @c35_29_s <| aI @c35_28_s <| aI @c35_27_s <| aI @c35_2_s <| aI @c35_1_s <| aI @c35_s <| @w3t_35
-- K35: ↓hk35
/-! ### (*vouch/vouchref15.Origin) . read -/
def V36 : Nat → Bool := fun i => [0, 1, 3, 4, 5, 6, 7, 8, 9, 10, 25, 35, 50, 65].elem i
def cond36:=@s_cond Tryz.prog 92 V36
def drw36:=@s_drw Tryz.prog 92 V36
def reg36:=@s_reg Tryz.prog 92 V36
def rend36:=@s_rend Tryz.prog 92 V36
def seq36:=@s_seq Tryz.prog 92 V36
noncomputable def c36:Code:=(Tryz.f36.body.getD .skip)
noncomputable def c36_1:=cR c36
noncomputable def c36_2:=cR c36_1
noncomputable def c36_3:=cR c36_2
noncomputable def c36_4:=cR c36_3
noncomputable def c36_5:=cR c36_4
noncomputable def c36_6:=cR c36_5
noncomputable def b36_9:List Row:=[(0, 0, 1, 39, true), (1, 1, 274877906944, 40, true), (2, 3, 549755813888, 41, true), (0, 0, 8, 42, true), (8, 8, 2199023255552, 43, true), (0, 0, 128, 44, true), (52, 63, 14293651161088, 45, false), (64, 127, 17592186044416, 38, true), (128, 255, 137438953472, 46, true), (128, 255, 137438953472, 47, true), (0, 0, 0, 9, false), (1535, 1535, 35184372089088, 0, false), (4095, 4095, 70368744177664, 10, true)]
noncomputable def c36_7:=cR c36_6
noncomputable def c36_8:=cR c36_7
noncomputable def c36_9:=cR c36_8
noncomputable def c36_10:=cR c36_9
noncomputable def c36_11:=cR c36_10
noncomputable def c36_12:=cR c36_11
noncomputable def b36_17:List Row:=[(0, 0, 8, 71, true), (1, 1, 1180591620717411303424, 72, true), (0, 0, 1, 73, true), (4, 4, 4722366482869645213696, 74, true), (8, 12, 9444732965739290427392, 75, true), (16, 28, 18889465931478580854784, 76, true), (32, 60, 37778931862957161709568, 77, true), (66, 127, 77919046967349146025984, 78, false), (0, 0, 8, 79, true), (256, 256, 302231454903657293676544, 80, true), (0, 0, 256, 81, true), (1024, 1024, 1208925819614629174706176, 82, true), (0, 0, 256, 83, true), (4096, 4096, 4835703278458516698824704, 84, true), (0, 0, 256, 85, true), (16384, 16384, 19342813113834066795298816, 86, true), (40960, 61440, 48357032784585166988247040, 87, true), (0, 0, 64, 88, true), (199296, 262143, 235287187642497203127189504, 89, true), (0, 0, 0, 11, false), (1048575, 1048575, 309485009821345068724782080, 0, false)]
noncomputable def c36_13:=cR c36_12
noncomputable def c36_14:=cL c36_11
noncomputable def c36_15:=cR c36_14
noncomputable def c36_16:=cL c36_15
noncomputable def c36_17:=cL c36_8
noncomputable def c36_18:=cR c36_17
noncomputable def c36_19:=cL c36_18
noncomputable def c36_20:=cL c36_5
noncomputable def c36_21:=cR c36_20
noncomputable def c36_22:=cL c36_21
noncomputable def c36_23:=cL c36_3
noncomputable def c36_24:=cR c36_23
noncomputable def c36_25:=cL c36_24
noncomputable def c36_26:=cR c36_25
def c36_13_s:=@reg36 c36_13 .ret 18 (rO (cL c36_13)) (fun N M G k e w =>
 N (xv (loadAt 40 (e 5))) w fun t89 w =>
 N (xv (loadAt 40 (e 10))) w fun t90 w =>
 N (xv (Instr.buildSlice 24 2 ([(0, t89), (1, t90)]).toArray)) w fun t91 w =>
 M t91 fun t4 =>
 k (Env.p e 4 t4) w) (by kernel_rfl) (by intros; kernel_rfl)
def c36_12_s:=@drw36 c36_12 c36_13 17 (rO (cL c36_12)) b36_17 21 (fun N T M G H Y k e w =>
 T (FrX none w) (xv (fieldAt 40 (e 3) 6)) fun t70 =>
 T (FrX (some []) w) (xv (loadAt 9 t70)) fun t71 =>
 M (e 0) fun t72 =>
 T (FrX none w) (xnil t72) fun t73 =>
 T (FrX none w) (xv (fieldAt 52 t73 0)) fun t74 =>
 T (FrX none w) (xv (fieldAt 23 t74 0)) fun t75 =>
 T (FrX (some []) w) (xv (loadAt 3 t75)) fun t76 =>
 T (FrX none w) (xv (fieldAt 40 (e 3) 6)) fun t78 =>
 T (FrX (some []) w) (xv (loadAt 9 t78)) fun t79 =>
 T (FrX none w) (xv (fieldAt 57 (e 8) 1)) fun t80 =>
 T (FrX (some []) w) (xv (loadAt 35 t80)) fun t81 =>
 T (FrX none w) (xv (fieldAt 57 (e 8) 2)) fun t82 =>
 T (FrX (some []) w) (xv (loadAt 2 t82)) fun t83 =>
 T (FrX none w) (xv (fieldAt 57 (e 8) 3)) fun t84 =>
 T (FrX (some []) w) (xv (loadAt 2 t84)) fun t85 =>
 T (FrX none w) (xv (Instr.build 33 ([(0, t83), (1, t85)]).toArray)) fun t86 =>
 M (e 6) fun t87 =>
 (N (xcall (.func (.func 69) #[] #[]) [t71, t76]) w fun t77 w7 =>
 Y true (xv (loadAt 2 t84)) t85 w w7 ∧ (Y true (xv (loadAt 2 t82)) t83 w w7 ∧ (Y true (xv (loadAt 35 t80)) t81 w w7 ∧ (Y true (xv (loadAt 9 t78)) t79 w w7 ∧ (T (FrX none w7) (xv (Instr.build 40 ([(0, (.int .i64 7)), (1, t77), (6, t79), (8, t81), (7, t86), (11, t87)]).toArray)) fun t88 =>
 N (xv (Instr.alloc 40 true (.tuple #[]))) w7 fun t10 w19 =>
 Y true (xv (loadAt 2 t84)) t85 w w19 ∧ (Y true (xv (loadAt 2 t82)) t83 w w19 ∧ (Y true (xv (loadAt 35 t80)) t81 w w19 ∧ (Y true (xv (loadAt 9 t78)) t79 w w19 ∧ (N (xu (storeAt 40 t10 t88)) w19 fun _ w20 =>
 k (Env.p e 10 t10) w20))))))))) ∧ (N (xv (Instr.alloc 40 true (.tuple #[]))) w fun t10 w19 =>
 Y true (xv (loadAt 2 t84)) t85 w w19 ∧ (Y true (xv (loadAt 2 t82)) t83 w w19 ∧ (Y true (xv (loadAt 35 t80)) t81 w w19 ∧ (Y true (xv (loadAt 9 t78)) t79 w w19 ∧ (Y true (xv (loadAt 3 t75)) t76 w w19 ∧ (Y true (xv (loadAt 9 t70)) t71 w w19 ∧ (N (xcall (.func (.func 69) #[] #[]) [t71, t76]) w19 fun t77 w7 =>
 Y true (xv (loadAt 2 t84)) t85 w w7 ∧ (Y true (xv (loadAt 2 t82)) t83 w w7 ∧ (Y true (xv (loadAt 35 t80)) t81 w w7 ∧ (Y true (xv (loadAt 9 t78)) t79 w w7 ∧ (T (FrX none w7) (xv (Instr.build 40 ([(0, (.int .i64 7)), (1, t77), (6, t79), (8, t81), (7, t86), (11, t87)]).toArray)) fun t88 =>
 N (xu (storeAt 40 t10 t88)) w7 fun _ w20 =>
 k (Env.p e 10 t10) w20)))))))))))) (by kernel_rfl) (by kernel_rfl) (by kernel_rfl) (by intros; kernel_rfl)
def c36_16_s:=@rend36 c36_16 16 (rO c36_16) (fun N M G k e w =>
 M (e 6) fun t66 =>
 N (xv (xbin .add 2 (.tmp 66) (.const (.int .i64 1)) t66 (.int .i64 1))) w fun t67 w =>
 N (xv (fieldAt 40 (e 5) 7)) w fun t68 w =>
 N (xv (fieldAt 33 t68 1)) w fun t69 w =>
 N (xu (storeAt 2 t69 t67)) w fun _ w =>
 k e w) (by kernel_rfl) (by intros; kernel_rfl)
def c36_15_s:=@cond36 c36_15 .skip 65 c36_16 (by kernel_rfl) (by kernel_rfl)
def c36_14_s:=@reg36 c36_14 c36_15 15 (rO (cL c36_14)) (fun N M G k e w =>
 N (xv (fieldAt 57 (e 8) 3)) w fun t62 w =>
 N (xv (loadAt 2 t62)) w fun t63 w =>
 M (e 6) fun t64 =>
 N (xv (xbin .gtr 2 (.tmp 63) (.tmp 64) t63 t64)) w fun t65 w =>
 k (Env.p e 65 t65) w) (by kernel_rfl) (by intros; kernel_rfl)
def c36_11_s:=@seq36 c36_11 c36_12 c36_14 (by kernel_rfl)
def c36_10_s:=@reg36 c36_10 c36_11 14 (rO (cL c36_10)) (fun N M G k e w =>
 N (xv (fieldAt 57 (e 8) 2)) w fun t56 w =>
 N (xv (loadAt 2 t56)) w fun t57 w =>
 N (xv (fieldAt 57 (e 8) 3)) w fun t58 w =>
 N (xv (loadAt 2 t58)) w fun t59 w =>
 N (xv (Instr.build 33 ([(0, t57), (1, t59)]).toArray)) w fun t60 w =>
 N (xv (fieldAt 40 (e 5) 7)) w fun t61 w =>
 N (xu (storeAt 33 t61 t60)) w fun _ w =>
 k e w) (by kernel_rfl) (by intros; kernel_rfl)
def c36_9_s:=@reg36 c36_9 c36_10 13 (rO (cL c36_9)) (fun N M G k e w =>
 N (xv (fieldAt 57 (e 8) 1)) w fun t53 w =>
 N (xv (loadAt 35 t53)) w fun t54 w =>
 N (xv (fieldAt 40 (e 5) 8)) w fun t55 w =>
 N (xu (storeAt 35 t55 t54)) w fun _ w =>
 k e w) (by kernel_rfl) (by intros; kernel_rfl)
def c36_19_s:=@reg36 c36_19 .ret 12 (rO (cL c36_19)) (fun N M G k e w =>
 N (xv (loadAt 40 (e 5))) w fun t51 w =>
 N (xv (Instr.buildSlice 24 1 ([(0, t51)]).toArray)) w fun t52 w =>
 M t52 fun t4 =>
 k (Env.p e 4 t4) w) (by kernel_rfl) (by intros; kernel_rfl)
def c36_18_s:=@cond36 c36_18 .skip 50 c36_19 (by kernel_rfl) (by kernel_rfl)
def c36_17_s:=@reg36 c36_17 c36_18 11 (rO (cL c36_17)) (fun N M G k e w =>
 M (e 9) fun t49 =>
 N (xv (xbin .neq 3 (.tmp 49) (.const (.int .i64 0)) t49 (.int .i64 0))) w fun t50 w =>
 k (Env.p e 50 t50) w) (by kernel_rfl) (by intros; kernel_rfl)
def c36_8_s:=@seq36 c36_8 c36_9 c36_17 (by kernel_rfl)
def c36_7_s:=@reg36 c36_7 c36_8 10 (rO (cL c36_7)) (fun N M G k e w =>
 M (e 9) fun t47 =>
 N (xv (fieldAt 40 (e 5) 10)) w fun t48 w =>
 N (xu (storeAt 36 t48 t47)) w fun _ w =>
 k e w) (by kernel_rfl) (by intros; kernel_rfl)
def c36_6_s:=@drw36 c36_6 c36_7 9 (rO (cL c36_6)) b36_9 13 (fun N T M G H Y k e w =>
 M (e 0) fun t38 =>
 T (FrX none w) (xnil t38) fun t39 =>
 T (FrX none w) (xv (fieldAt 52 t39 1)) fun t40 =>
 T (FrX none w) (xv (fieldAt 40 (e 3) 6)) fun t41 =>
 T (FrX (some []) w) (xv (loadAt 9 t41)) fun t42 =>
 M (e 7) fun t43 =>
 (N (xcall (.func (.func 17) #[] #[]) [t40, t42, t43]) w fun t44 w6 =>
 M t44 fun t37 =>
 T (FrX none w6) (xv (Instr.extract t37 0)) fun t45 =>
 T (FrX none w6) (xv (Instr.extract t37 1)) fun t46 =>
 N (xv (Instr.alloc 57 true (.tuple #[]))) w6 fun t8 w10 =>
 N (xu (storeAt 57 t8 t45)) w10 fun _ w11 =>
 M t46 fun t9 =>
 k (Env.p (Env.p e 8 t8) 9 t9) w11) ∧ (N (xv (Instr.alloc 57 true (.tuple #[]))) w fun t8 w10 =>
 Y true (xv (loadAt 9 t41)) t42 w w10 ∧ (N (xcall (.func (.func 17) #[] #[]) [t40, t42, t43]) w10 fun t44 w6 =>
 M t44 fun t37 =>
 T (FrX none w6) (xv (Instr.extract t37 0)) fun t45 =>
 T (FrX none w6) (xv (Instr.extract t37 1)) fun t46 =>
 N (xu (storeAt 57 t8 t45)) w6 fun _ w11 =>
 M t46 fun t9 =>
 k (Env.p (Env.p e 8 t8) 9 t9) w11))) (by kernel_rfl) (by kernel_rfl) (by kernel_rfl) (by intros; kernel_rfl)
def c36_22_s:=@rend36 c36_22 8 (rO c36_22) (fun N M G k e w =>
 M (e 6) fun t36 =>
 M t36 fun t7 =>
 k (Env.p e 7 t7) w) (by kernel_rfl) (by intros; kernel_rfl)
def c36_21_s:=@cond36 c36_21 .skip 35 c36_22 (by kernel_rfl) (by kernel_rfl)
def c36_20_s:=@reg36 c36_20 c36_21 7 (rO (cL c36_20)) (fun N M G k e w =>
 M (e 7) fun t33 =>
 M (e 6) fun t34 =>
 N (xv (xbin .gtr 2 (.tmp 33) (.tmp 34) t33 t34)) w fun t35 w =>
 k (Env.p e 35 t35) w) (by kernel_rfl) (by intros; kernel_rfl)
def c36_5_s:=@seq36 c36_5 c36_6 c36_20 (by kernel_rfl)
def c36_4_s:=@reg36 c36_4 c36_5 6 (rO (cL c36_4)) (fun N M G k e w =>
 N (xv (fieldAt 40 (e 3) 7)) w fun t29 w =>
 N (xv (fieldAt 33 t29 1)) w fun t30 w =>
 N (xv (loadAt 2 t30)) w fun t31 w =>
 N (xv (xbin .sub 2 (.tmp 31) (.const (.int .i64 1)) t31 (.int .i64 1))) w fun t32 w =>
 M t32 fun t7 =>
 k (Env.p e 7 t7) w) (by kernel_rfl) (by intros; kernel_rfl)
def c36_26_s:=@reg36 c36_26 .ret 5 (rO (cL c36_26)) (fun N M G k e w =>
 N (xv (loadAt 40 (e 5))) w fun t27 w =>
 N (xv (Instr.buildSlice 24 1 ([(0, t27)]).toArray)) w fun t28 w =>
 M t28 fun t4 =>
 k (Env.p e 4 t4) w) (by kernel_rfl) (by intros; kernel_rfl)
def c36_25_s:=@reg36 c36_25 c36_26 4 (rO (cL c36_25)) (fun N M G k e w =>
 N (xv (fieldAt 40 (e 5) 10)) w fun t26 w =>
 N (xu (storeAt 36 t26 (.int .i64 21))) w fun _ w =>
 k e w) (by kernel_rfl) (by intros; kernel_rfl)
def c36_24_s:=@cond36 c36_24 .skip 25 c36_25 (by kernel_rfl) (by kernel_rfl)
def c36_23_s:=@reg36 c36_23 c36_24 3 (rO (cL c36_23)) (fun N M G k e w =>
 N (xv (fieldAt 40 (e 3) 7)) w fun t21 w =>
 N (xv (fieldAt 33 t21 0)) w fun t22 w =>
 N (xv (loadAt 2 t22)) w fun t23 w =>
 M (e 6) fun t24 =>
 N (xv (xbin .gtr 2 (.tmp 23) (.tmp 24) t23 t24)) w fun t25 w =>
 k (Env.p e 25 t25) w) (by kernel_rfl) (by intros; kernel_rfl)
def c36_3_s:=@seq36 c36_3 c36_4 c36_23 (by kernel_rfl)
def c36_2_s:=@reg36 c36_2 c36_3 2 (rO (cL c36_2)) (fun N M G k e w =>
 M (e 0) fun t16 =>
 N (xnil t16) w fun t17 w =>
 N (xv (fieldAt 52 t17 1)) w fun t18 w =>
 N (xv (fieldAt 44 t18 2)) w fun t19 w =>
 N (xv (loadAt 2 t19)) w fun t20 w =>
 M t20 fun t6 =>
 k (Env.p e 6 t6) w) (by kernel_rfl) (by intros; kernel_rfl)
def c36_1_s:=@reg36 c36_1 c36_2 1 (rO (cL c36_1)) (fun N M G k e w =>
 N (xv (fieldAt 40 (e 3) 4)) w fun t11 w =>
 N (xv (loadAt 3 t11)) w fun t12 w =>
 N (xv (fieldAt 40 (e 3) 5)) w fun t13 w =>
 N (xv (loadAt 3 t13)) w fun t14 w =>
 N (xv (Instr.build 40 ([(0, (.int .i64 6)), (4, t12), (5, t14)]).toArray)) w fun t15 w =>
 N (xv (Instr.alloc 40 true (.tuple #[]))) w fun t5 w =>
 N (xu (storeAt 40 t5 t15)) w fun _ w =>
 k (Env.p e 5 t5) w) (by kernel_rfl) (by intros; kernel_rfl)
def c36_s:=@reg36 c36 c36_1 0 (rO (cL c36)) (fun N M G k e w =>
 N (xv (Instr.box 40 (e 1))) w fun t3 w =>
 M (.slice none 0 0) fun t4 =>
 k (Env.p (Env.p e 3 t3) 4 t4) w) (by kernel_rfl) (by intros; kernel_rfl)
theorem call36 {a0 a1 : Value} {w : World} {R : Value → World → Prop} (h : W3 Tryz.prog 92 V36 c36 (retQ Tryz.prog [.tmp 4] R) (argE [a0, a1]) w) : CallsN Tryz.prog 36 [a0, a1] w R :=
 callsN_of_W3 (c := c36) (rs := [.tmp 4]) V36 Tryz.ntmps36 (by rw [Tryz.results36]) mixed Tryz.func36 (by kernel_rfl) (by kernel_rfl) (by kernel_rfl) (by kernel_rfl) (by simp) h
def w3t_36:=w3t Tryz.prog 92 V36
def hk36 := aI @c36_13_s <| aI @c36_12_s <| aI @c36_16_s <| aI @c36_15_s <| aI @c36_14_s <| aI @c36_11_s <| aI @c36_10_s <| aI @c36_9_s <| aI @c36_19_s <| aI @c36_18_s <| aI @c36_17_s <| aI @c36_8_s <| aI @c36_7_s <| aI @c36_6_s <| aI @c36_22_s <| aI @c36_21_s <| aI @c36_20_s <| aI @c36_5_s <| aI @c36_4_s <| aI @c36_26_s <| aI @c36_25_s <| aI @c36_24_s <| aI @c36_23_s <| aI @c36_3_s <| aI @c36_2_s <| aI @c36_1_s <| aI @c36_s <| @w3t_36
-- K36: ↓hk36
/-! ### vouch/vouchref15.keys -/
def V67 : Nat → Bool := fun i => [0, 2, 3, 4, 8].elem i
def block67:=@s_block Tryz.prog 20 V67
def cond67:=@s_cond Tryz.prog 20 V67
def loop67:=@s_loop Tryz.prog 20 V67
def reg67:=@s_reg Tryz.prog 20 V67
def rend67:=@s_rend Tryz.prog 20 V67
def seq67:=@s_seq Tryz.prog 20 V67
noncomputable def c67:Code:=(Tryz.f67.body.getD .skip)
noncomputable def c67_1:=cR c67
noncomputable def c67_2:=cR c67_1
noncomputable def c67_3:=cR c67_2
noncomputable def c67_4:=cL c67_2
noncomputable def c67_5:=cR c67_4
noncomputable def c67_6:=cL c67_5
noncomputable def c67_7:=cL c67_6
noncomputable def c67_8:=cR c67_7
noncomputable def c67_9:=cR c67_8
noncomputable def c67_10:=cL c67_8
noncomputable def c67_11:=cL c67_10
noncomputable def c67_12:=cL c67_7
noncomputable def c67_13:=cR c67_12
def c67_3_s:=@reg67 c67_3 .ret 6 (rO (cL c67_3)) (fun N M G k e w =>
 M (e 3) fun t19 =>
 M t19 fun t2 =>
 k (Env.p e 2 t2) w) (by kernel_rfl) (by intros; kernel_rfl)
def c67_9_s:=@rend67 c67_9 4 (rO c67_9) (fun N M G k e w =>
 M (e 4) fun t9 =>
 N (xv (xbin .add 3 (.tmp 9) (.const (.int .i64 1)) t9 (.int .i64 1))) w fun t10 w =>
 M t10 fun t4 =>
 k (Env.p e 4 t4) w) (by kernel_rfl) (by intros; kernel_rfl)
def c67_11_s:=@rend67 c67_11 5 (rO c67_11) (fun N M G k e w =>
 M (e 3) fun t11 =>
 M (e 0) fun t12 =>
 M (e 4) fun t13 =>
 N (xv (indexAt 37 t12 t13)) w fun t14 w =>
 N (xv (fieldAt 66 t14 0)) w fun t15 w =>
 N (xv (loadAt 9 t15)) w fun t16 w =>
 N (xv (Instr.buildSlice 38 1 ([(0, t16)]).toArray)) w fun t17 w =>
 N (builtin Builtin.append #[38, 38] 38 ([false, false]).toArray ([t11, t17]).toArray) w fun t18 w =>
 M t18 fun t3 =>
 k (Env.p e 3 t3) w) (by kernel_rfl) (by intros; kernel_rfl)
def c67_10_s:=@block67 c67_10 c67_11 1 (by kernel_rfl)
def c67_8_s:=@seq67 c67_8 c67_9 c67_10 (by kernel_rfl)
def c67_13_s:=@cond67 c67_13 (.exit 0) 8 .skip (by kernel_rfl) (by kernel_rfl)
def c67_12_s:=@reg67 c67_12 c67_13 3 (rO (cL c67_12)) (fun N M G k e w =>
 M (e 4) fun t5 =>
 M (e 0) fun t6 =>
 N (builtin Builtin.len #[37] 3 ([false]).toArray ([t6]).toArray) w fun t7 w =>
 N (xv (xbin .lss 3 (.tmp 5) (.tmp 7) t5 t7)) w fun t8 w =>
 k (Env.p e 8 t8) w) (by kernel_rfl) (by intros; kernel_rfl)
def c67_7_s:=@seq67 c67_7 c67_8 c67_12 (by kernel_rfl)
def c67_6_s:=@loop67 c67_6 c67_7 (by kernel_rfl)
def c67_5_s:=@block67 c67_5 c67_6 0 (by kernel_rfl)
def c67_4_s:=@reg67 c67_4 c67_5 2 (rO (cL c67_4)) (fun N M G k e w =>
 M (.int .i64 0) fun t4 =>
 k (Env.p e 4 t4) w) (by kernel_rfl) (by intros; kernel_rfl)
def c67_2_s:=@seq67 c67_2 c67_3 c67_4 (by kernel_rfl)
def c67_1_s:=@reg67 c67_1 c67_2 1 (rO (cL c67_1)) (fun N M G k e w =>
 M (.slice none 0 0) fun t3 =>
 k (Env.p e 3 t3) w) (by kernel_rfl) (by intros; kernel_rfl)
def c67_s:=@reg67 c67 c67_1 0 (rO (cL c67)) (fun N M G k e w =>
 M (.slice none 0 0) fun t2 =>
 k (Env.p e 2 t2) w) (by kernel_rfl) (by intros; kernel_rfl)
theorem call67 {a0 : Value} {w : World} {R : Value → World → Prop} (h : W3 Tryz.prog 20 V67 c67 (retQ Tryz.prog [.tmp 2] R) (argE [a0]) w) : CallsN Tryz.prog 67 [a0] w R :=
 callsN_of_W3 (c := c67) (rs := [.tmp 2]) V67 Tryz.ntmps67 (by rw [Tryz.results67]) mixed Tryz.func67 (by kernel_rfl) (by kernel_rfl) (by kernel_rfl) (by kernel_rfl) (by simp) h
def w3t_67:=w3t Tryz.prog 20 V67
def hk67 := aI @c67_3_s <| aI @c67_9_s <| aI @c67_11_s <| aI @c67_10_s <| aI @c67_8_s <| aI @c67_13_s <| aI @c67_12_s <| aI @c67_7_s <| aI @c67_6_s <| aI @c67_5_s <| aI @c67_4_s <| aI @c67_2_s <| aI @c67_1_s <| aI @c67_s <| @w3t_67
-- K67: ↓hk67
/-! ### vouch/vouchref14.To -/
def V69 : Nat → Bool := fun i => [0, 1, 4, 5, 11].elem i
def cond69:=@s_cond Tryz.prog 24 V69
def reg69:=@s_reg Tryz.prog 24 V69
def seq69:=@s_seq Tryz.prog 24 V69
noncomputable def c69:Code:=(Tryz.f69.body.getD .skip)
noncomputable def c69_1:=cR c69
noncomputable def c69_2:=cR c69_1
noncomputable def c69_3:=cR c69_2
noncomputable def c69_4:=cL c69_1
noncomputable def c69_5:=cR c69_4
noncomputable def c69_6:=cL c69_5
def c69_3_s:=@reg69 c69_3 .ret 4 (rO (cL c69_3)) (fun N M G k e w =>
 M (e 5) fun t14 =>
 M (e 5) fun t15 =>
 M (e 1) fun t16 =>
 N (xv (convert 3 143 t16)) w fun t17 w =>
 N (xv (xbin .quo 143 (.tmp 15) (.tmp 17) t15 t17)) w fun t18 w =>
 M (e 1) fun t19 =>
 N (xv (convert 3 143 t19)) w fun t20 w =>
 N (xv (xbin .mul 143 (.tmp 18) (.tmp 20) t18 t20)) w fun t21 w =>
 N (xv (xbin .sub 143 (.tmp 14) (.tmp 21) t14 t21)) w fun t22 w =>
 N (xv (convert 143 3 t22)) w fun t23 w =>
 M t23 fun t4 =>
 k (Env.p e 4 t4) w) (by kernel_rfl) (by intros; kernel_rfl)
def c69_2_s:=@reg69 c69_2 c69_3 3 (rO (cL c69_2)) (fun N M G k e w =>
 M (e 0) fun t12 =>
 N (xcall (.func (.func 95) #[] #[]) [t12]) w fun t13 w =>
 M t13 fun t5 =>
 k (Env.p e 5 t5) w) (by kernel_rfl) (by intros; kernel_rfl)
def c69_6_s:=@reg69 c69_6 .ret 2 (rO (cL c69_6)) (fun N M G k e w =>
 M (.int .i64 (-1)) fun t4 =>
 k (Env.p e 4 t4) w) (by kernel_rfl) (by intros; kernel_rfl)
def c69_5_s:=@cond69 c69_5 .skip 11 c69_6 (by kernel_rfl) (by kernel_rfl)
def c69_4_s:=@reg69 c69_4 c69_5 1 (rO (cL c69_4)) (fun N M G k e w =>
 M (e 1) fun t6 =>
 N (xv (xbin .lss 3 (.tmp 6) (.const (.int .i64 1)) t6 (.int .i64 1))) w fun t7 w =>
 M t7 fun t8 =>
 G (isB t8 false) (fun K => M (e 1) fun v => K v w) (fun t9 w =>
 G (isB t8 false) (fun K => N (xv (xbin .gtr 3 (.tmp 9) (.const (.int .i64 8)) t9 (.int .i64 8))) w K) (fun t10 w =>
 N (xpick t8 (.bool true) t10) w fun t11 w =>
 k (Env.p e 11 t11) w) w) w) (by kernel_rfl) (by intros; kernel_rfl)
def c69_1_s:=@seq69 c69_1 c69_2 c69_4 (by kernel_rfl)
def c69_s:=@reg69 c69 c69_1 0 (rO (cL c69)) (fun N M G k e w =>
 M (.int .i64 0) fun t4 =>
 k (Env.p e 4 t4) w) (by kernel_rfl) (by intros; kernel_rfl)
theorem call69 {a0 a1 : Value} {w : World} {R : Value → World → Prop} (h : W3 Tryz.prog 24 V69 c69 (retQ Tryz.prog [.tmp 4] R) (argE [a0, a1]) w) : CallsN Tryz.prog 69 [a0, a1] w R :=
 callsN_of_W3 (c := c69) (rs := [.tmp 4]) V69 Tryz.ntmps69 (by rw [Tryz.results69]) mixed Tryz.func69 (by kernel_rfl) (by kernel_rfl) (by kernel_rfl) (by kernel_rfl) (by simp) h
def w3t_69:=w3t Tryz.prog 24 V69
def hk69 := aI @c69_3_s <| aI @c69_2_s <| aI @c69_6_s <| aI @c69_5_s <| aI @c69_4_s <| aI @c69_1_s <| aI @c69_s <| @w3t_69
-- K69: ↓hk69
/-! ### vouch/vouchref14.Hash -/
def V95 : Nat → Bool := fun i => [0, 2, 3, 4, 5, 9].elem i
def block95:=@s_block Tryz.prog 26 V95
def cond95:=@s_cond Tryz.prog 26 V95
def loop95:=@s_loop Tryz.prog 26 V95
def reg95:=@s_reg Tryz.prog 26 V95
def rend95:=@s_rend Tryz.prog 26 V95
def seq95:=@s_seq Tryz.prog 26 V95
noncomputable def c95:Code:=(Tryz.f95.body.getD .skip)
noncomputable def c95_1:=cR c95
noncomputable def c95_2:=cR c95_1
noncomputable def c95_3:=cR c95_2
noncomputable def c95_4:=cL c95_2
noncomputable def c95_5:=cR c95_4
noncomputable def c95_6:=cL c95_5
noncomputable def c95_7:=cL c95_6
noncomputable def c95_8:=cR c95_7
noncomputable def c95_9:=cR c95_8
noncomputable def c95_10:=cL c95_8
noncomputable def c95_11:=cL c95_10
noncomputable def c95_12:=cR c95_11
noncomputable def c95_13:=cR c95_12
noncomputable def c95_14:=cL c95_7
noncomputable def c95_15:=cR c95_14
def c95_3_s:=@reg95 c95_3 .ret 8 (rO (cL c95_3)) (fun N M G k e w =>
 M (e 3) fun t25 =>
 M t25 fun t2 =>
 k (Env.p e 2 t2) w) (by kernel_rfl) (by intros; kernel_rfl)
def c95_9_s:=@rend95 c95_9 4 (rO c95_9) (fun N M G k e w =>
 M (e 4) fun t10 =>
 N (xv (xbin .add 3 (.tmp 10) (.const (.int .i64 1)) t10 (.int .i64 1))) w fun t11 w =>
 M t11 fun t4 =>
 k (Env.p e 4 t4) w) (by kernel_rfl) (by intros; kernel_rfl)
def c95_13_s:=@rend95 c95_13 7 (rO c95_13) (fun N M G k e w =>
 M (e 3) fun t23 =>
 N (xv (xbin .mul 143 (.tmp 23) (.const (.int .u64 1099511628211)) t23 (.int .u64 1099511628211))) w fun t24 w =>
 M t24 fun t3 =>
 k (Env.p e 3 t3) w) (by kernel_rfl) (by intros; kernel_rfl)
def c95_12_s:=@reg95 c95_12 c95_13 6 (rO (cL c95_12)) (fun N M G k e w =>
 M (e 3) fun t16 =>
 M (e 5) fun t17 =>
 N (xv (xbin .or 143 (.tmp 16) (.tmp 17) t16 t17)) w fun t18 w =>
 M (e 3) fun t19 =>
 M (e 5) fun t20 =>
 N (xv (xbin .and 143 (.tmp 19) (.tmp 20) t19 t20)) w fun t21 w =>
 N (xv (xbin .sub 143 (.tmp 18) (.tmp 21) t18 t21)) w fun t22 w =>
 M t22 fun t3 =>
 k (Env.p e 3 t3) w) (by kernel_rfl) (by intros; kernel_rfl)
def c95_11_s:=@reg95 c95_11 c95_12 5 (rO (cL c95_11)) (fun N M G k e w =>
 M (e 0) fun t12 =>
 M (e 4) fun t13 =>
 N (xv (Instr.index 9 t12 t13)) w fun t14 w =>
 N (xv (convert 5 143 t14)) w fun t15 w =>
 M t15 fun t5 =>
 k (Env.p e 5 t5) w) (by kernel_rfl) (by intros; kernel_rfl)
def c95_10_s:=@block95 c95_10 c95_11 1 (by kernel_rfl)
def c95_8_s:=@seq95 c95_8 c95_9 c95_10 (by kernel_rfl)
def c95_15_s:=@cond95 c95_15 (.exit 0) 9 .skip (by kernel_rfl) (by kernel_rfl)
def c95_14_s:=@reg95 c95_14 c95_15 3 (rO (cL c95_14)) (fun N M G k e w =>
 M (e 4) fun t6 =>
 M (e 0) fun t7 =>
 N (builtin Builtin.len #[9] 3 ([false]).toArray ([t7]).toArray) w fun t8 w =>
 N (xv (xbin .lss 3 (.tmp 6) (.tmp 8) t6 t8)) w fun t9 w =>
 k (Env.p e 9 t9) w) (by kernel_rfl) (by intros; kernel_rfl)
def c95_7_s:=@seq95 c95_7 c95_8 c95_14 (by kernel_rfl)
def c95_6_s:=@loop95 c95_6 c95_7 (by kernel_rfl)
def c95_5_s:=@block95 c95_5 c95_6 0 (by kernel_rfl)
def c95_4_s:=@reg95 c95_4 c95_5 2 (rO (cL c95_4)) (fun N M G k e w =>
 M (.int .i64 0) fun t4 =>
 k (Env.p e 4 t4) w) (by kernel_rfl) (by intros; kernel_rfl)
def c95_2_s:=@seq95 c95_2 c95_3 c95_4 (by kernel_rfl)
def c95_1_s:=@reg95 c95_1 c95_2 1 (rO (cL c95_1)) (fun N M G k e w =>
 M (.int .u64 14695981039346656037) fun t3 =>
 k (Env.p e 3 t3) w) (by kernel_rfl) (by intros; kernel_rfl)
def c95_s:=@reg95 c95 c95_1 0 (rO (cL c95)) (fun N M G k e w =>
 M (.int .u64 0) fun t2 =>
 k (Env.p e 2 t2) w) (by kernel_rfl) (by intros; kernel_rfl)
theorem call95 {a0 : Value} {w : World} {R : Value → World → Prop} (h : W3 Tryz.prog 26 V95 c95 (retQ Tryz.prog [.tmp 2] R) (argE [a0]) w) : CallsN Tryz.prog 95 [a0] w R :=
 callsN_of_W3 (c := c95) (rs := [.tmp 2]) V95 Tryz.ntmps95 (by rw [Tryz.results95]) mixed Tryz.func95 (by kernel_rfl) (by kernel_rfl) (by kernel_rfl) (by kernel_rfl) (by simp) h
def w3t_95:=w3t Tryz.prog 26 V95
def hk95 := aI @c95_3_s <| aI @c95_9_s <| aI @c95_13_s <| aI @c95_12_s <| aI @c95_11_s <| aI @c95_10_s <| aI @c95_8_s <| aI @c95_15_s <| aI @c95_14_s <| aI @c95_7_s <| aI @c95_6_s <| aI @c95_5_s <| aI @c95_4_s <| aI @c95_2_s <| aI @c95_1_s <| aI @c95_s <| @w3t_95
-- K95: ↓hk95
/-! ### vouch/vouchref09.Held -/
def V28 : Nat → Bool := fun i => [0, 1, 2].elem i
def drw28:=@s_drw Tryz.prog 28 V28
def reg28:=@s_reg Tryz.prog 28 V28
noncomputable def c28:Code:=(Tryz.f28.body.getD .skip)
noncomputable def c28_1:=cR c28
noncomputable def b28_1:List Row:=[(0, 0, 2, 4, true), (1, 1, 8, 5, true), (2, 3, 16, 6, false), (0, 0, 2, 7, true), (8, 8, 64, 8, true), (20, 31, 128, 9, false), (0, 0, 2, 10, true), (64, 64, 512, 11, true), (160, 255, 1024, 12, false), (0, 0, 2, 13, true), (512, 512, 4096, 14, true), (1280, 2047, 8192, 15, false), (0, 0, 2, 16, true), (4096, 4096, 32768, 17, true), (10240, 16383, 65536, 18, false), (0, 0, 2, 19, true), (32768, 32768, 262144, 20, true), (81920, 131071, 524288, 21, false), (0, 0, 2, 22, true), (262144, 262144, 2097152, 23, true), (655360, 1048575, 4194304, 24, false), (0, 0, 2, 25, true), (2097152, 2097152, 16777216, 26, true), (5242880, 8388607, 33554432, 27, false), (9586980, 16777215, 76695840, 28, true), (33554431, 33554431, 134217732, 0, false)]
def c28_1_s:=@drw28 c28_1 .ret 1 (rO (cL c28_1)) b28_1 26 (fun N T M G H Y k e w =>
 T (FrX none w) (xv (fieldAt 23 (e 1) 0)) fun t3 =>
 T (FrX (some []) w) (xv (loadAt 3 t3)) fun t4 =>
 T (FrX none w) (xv (fieldAt 23 (e 1) 1)) fun t6 =>
 T (FrX (some []) w) (xv (loadAt 3 t6)) fun t7 =>
 T (FrX none w) (xv (fieldAt 23 (e 1) 2)) fun t9 =>
 T (FrX (some []) w) (xv (loadAt 3 t9)) fun t10 =>
 T (FrX none w) (xv (fieldAt 23 (e 1) 3)) fun t12 =>
 T (FrX (some []) w) (xv (loadAt 3 t12)) fun t13 =>
 T (FrX none w) (xv (fieldAt 23 (e 1) 4)) fun t15 =>
 T (FrX (some []) w) (xv (loadAt 3 t15)) fun t16 =>
 T (FrX none w) (xv (fieldAt 23 (e 1) 5)) fun t18 =>
 T (FrX (some []) w) (xv (loadAt 3 t18)) fun t19 =>
 T (FrX none w) (xv (fieldAt 23 (e 1) 6)) fun t21 =>
 T (FrX (some []) w) (xv (loadAt 3 t21)) fun t22 =>
 T (FrX none w) (xv (fieldAt 23 (e 1) 7)) fun t24 =>
 T (FrX (some []) w) (xv (loadAt 3 t24)) fun t25 =>
 N (xcall (.func (.func 50) #[] #[]) [t4, (.int .i64 1), (.int .i64 8)]) w fun t5 w2 =>
 Y true (xv (loadAt 3 t24)) t25 w w2 ∧ (Y true (xv (loadAt 3 t21)) t22 w w2 ∧ (Y true (xv (loadAt 3 t18)) t19 w w2 ∧ (Y true (xv (loadAt 3 t15)) t16 w w2 ∧ (Y true (xv (loadAt 3 t12)) t13 w w2 ∧ (Y true (xv (loadAt 3 t9)) t10 w w2 ∧ (Y true (xv (loadAt 3 t6)) t7 w w2 ∧ (N (xcall (.func (.func 50) #[] #[]) [t7, (.int .i64 0), (.int .i64 1048576)]) w2 fun t8 w5 =>
 Y true (xv (loadAt 3 t24)) t25 w w5 ∧ (Y true (xv (loadAt 3 t21)) t22 w w5 ∧ (Y true (xv (loadAt 3 t18)) t19 w w5 ∧ (Y true (xv (loadAt 3 t15)) t16 w w5 ∧ (Y true (xv (loadAt 3 t12)) t13 w w5 ∧ (Y true (xv (loadAt 3 t9)) t10 w w5 ∧ (N (xcall (.func (.func 50) #[] #[]) [t10, (.int .i64 1), (.int .i64 64)]) w5 fun t11 w8 =>
 Y true (xv (loadAt 3 t24)) t25 w w8 ∧ (Y true (xv (loadAt 3 t21)) t22 w w8 ∧ (Y true (xv (loadAt 3 t18)) t19 w w8 ∧ (Y true (xv (loadAt 3 t15)) t16 w w8 ∧ (Y true (xv (loadAt 3 t12)) t13 w w8 ∧ (N (xcall (.func (.func 50) #[] #[]) [t13, (.int .i64 0), (.int .i64 256)]) w8 fun t14 w11 =>
 Y true (xv (loadAt 3 t24)) t25 w w11 ∧ (Y true (xv (loadAt 3 t21)) t22 w w11 ∧ (Y true (xv (loadAt 3 t18)) t19 w w11 ∧ (Y true (xv (loadAt 3 t15)) t16 w w11 ∧ (N (xcall (.func (.func 50) #[] #[]) [t16, (.int .i64 0), (.int .i64 1024)]) w11 fun t17 w14 =>
 Y true (xv (loadAt 3 t24)) t25 w w14 ∧ (Y true (xv (loadAt 3 t21)) t22 w w14 ∧ (Y true (xv (loadAt 3 t18)) t19 w w14 ∧ (N (xcall (.func (.func 50) #[] #[]) [t19, (.int .i64 1), (.int .i64 64)]) w14 fun t20 w17 =>
 Y true (xv (loadAt 3 t24)) t25 w w17 ∧ (Y true (xv (loadAt 3 t21)) t22 w w17 ∧ (N (xcall (.func (.func 50) #[] #[]) [t22, (.int .i64 0), (.int .i64 256)]) w17 fun t23 w20 =>
 Y true (xv (loadAt 3 t24)) t25 w w20 ∧ (N (xcall (.func (.func 50) #[] #[]) [t25, (.int .i64 0), (.int .i64 16)]) w20 fun t26 w23 =>
 T (FrX none w23) (xv (Instr.build 23 ([(0, t5), (1, t8), (2, t11), (3, t14), (4, t17), (5, t20), (6, t23), (7, t26)]).toArray)) fun t27 =>
 N (xu (storeAt 23 (e 2) t27)) w23 fun _ w25 =>
 k e w25))))))))))))))))))))))))))))) (by kernel_rfl) (by kernel_rfl) (by kernel_rfl) (by intros; kernel_rfl)
def c28_s:=@reg28 c28 c28_1 0 (rO (cL c28)) (fun N M G k e w =>
 N (xv (Instr.box 23 (e 0))) w fun t1 w =>
 N (xv (Instr.alloc 23 true (.tuple #[]))) w fun t2 w =>
 k (Env.p (Env.p e 1 t1) 2 t2) w) (by kernel_rfl) (by intros; kernel_rfl)
theorem call28 {a0 : Value} {w : World} {R : Value → World → Prop} (h : W3 Tryz.prog 28 V28 c28 (retQ Tryz.prog [.cell 2 23] R) (argE [a0]) w) : CallsN Tryz.prog 28 [a0] w R :=
 callsN_of_W3 (c := c28) (rs := [.cell 2 23]) V28 Tryz.ntmps28 (by rw [Tryz.results28]) mixed Tryz.func28 (by kernel_rfl) (by kernel_rfl) (by kernel_rfl) (by kernel_rfl) (by simp) h
def w3t_28:=w3t Tryz.prog 28 V28
def hk28 := aI @c28_1_s <| aI @c28_s <| @w3t_28
-- K28: ↓hk28
/-! ### vouch/vouchref09.held -/
def V50 : Nat → Bool := fun i => [0, 1, 2, 6, 9, 13].elem i
def cond50:=@s_cond Tryz.prog 16 V50
def reg50:=@s_reg Tryz.prog 16 V50
def seq50:=@s_seq Tryz.prog 16 V50
noncomputable def c50:Code:=(Tryz.f50.body.getD .skip)
noncomputable def c50_1:=cR c50
noncomputable def c50_2:=cR c50_1
noncomputable def c50_3:=cR c50_2
noncomputable def c50_4:=cL c50_2
noncomputable def c50_5:=cR c50_4
noncomputable def c50_6:=cL c50_5
noncomputable def c50_7:=cL c50_1
noncomputable def c50_8:=cR c50_7
noncomputable def c50_9:=cL c50_8
def c50_3_s:=@reg50 c50_3 .ret 5 (rO (cL c50_3)) (fun N M G k e w =>
 M (e 0) fun t15 =>
 M t15 fun t6 =>
 k (Env.p e 6 t6) w) (by kernel_rfl) (by intros; kernel_rfl)
def c50_6_s:=@reg50 c50_6 .ret 4 (rO (cL c50_6)) (fun N M G k e w =>
 M (e 2) fun t14 =>
 M t14 fun t6 =>
 k (Env.p e 6 t6) w) (by kernel_rfl) (by intros; kernel_rfl)
def c50_5_s:=@cond50 c50_5 .skip 13 c50_6 (by kernel_rfl) (by kernel_rfl)
def c50_4_s:=@reg50 c50_4 c50_5 3 (rO (cL c50_4)) (fun N M G k e w =>
 M (e 0) fun t11 =>
 M (e 2) fun t12 =>
 N (xv (xbin .gtr 3 (.tmp 11) (.tmp 12) t11 t12)) w fun t13 w =>
 k (Env.p e 13 t13) w) (by kernel_rfl) (by intros; kernel_rfl)
def c50_2_s:=@seq50 c50_2 c50_3 c50_4 (by kernel_rfl)
def c50_9_s:=@reg50 c50_9 .ret 2 (rO (cL c50_9)) (fun N M G k e w =>
 M (e 1) fun t10 =>
 M t10 fun t6 =>
 k (Env.p e 6 t6) w) (by kernel_rfl) (by intros; kernel_rfl)
def c50_8_s:=@cond50 c50_8 .skip 9 c50_9 (by kernel_rfl) (by kernel_rfl)
def c50_7_s:=@reg50 c50_7 c50_8 1 (rO (cL c50_7)) (fun N M G k e w =>
 M (e 0) fun t7 =>
 M (e 1) fun t8 =>
 N (xv (xbin .lss 3 (.tmp 7) (.tmp 8) t7 t8)) w fun t9 w =>
 k (Env.p e 9 t9) w) (by kernel_rfl) (by intros; kernel_rfl)
def c50_1_s:=@seq50 c50_1 c50_2 c50_7 (by kernel_rfl)
def c50_s:=@reg50 c50 c50_1 0 (rO (cL c50)) (fun N M G k e w =>
 M (.int .i64 0) fun t6 =>
 k (Env.p e 6 t6) w) (by kernel_rfl) (by intros; kernel_rfl)
theorem call50 {a0 a1 a2 : Value} {w : World} {R : Value → World → Prop} (h : W3 Tryz.prog 16 V50 c50 (retQ Tryz.prog [.tmp 6] R) (argE [a0, a1, a2]) w) : CallsN Tryz.prog 50 [a0, a1, a2] w R :=
 callsN_of_W3 (c := c50) (rs := [.tmp 6]) V50 Tryz.ntmps50 (by rw [Tryz.results50]) mixed Tryz.func50 (by kernel_rfl) (by kernel_rfl) (by kernel_rfl) (by kernel_rfl) (by simp) h
def w3t_50:=w3t Tryz.prog 16 V50
def hk50 := aI @c50_3_s <| aI @c50_6_s <| aI @c50_5_s <| aI @c50_4_s <| aI @c50_2_s <| aI @c50_9_s <| aI @c50_8_s <| aI @c50_7_s <| aI @c50_1_s <| aI @c50_s <| @w3t_50
-- K50: ↓hk50
end
end Go.Proofs.YtgloomahpjpiiaaGreat
