/- The equations of the code of some functions, written by the printer gen3.py: each is checked by the kernel. -/
import Derived.Test.YtgloomahpjpiiaaGreatQ0
import Derived.Test.YtgloomahpjpiiaaGreatCI
set_option linter.unusedVariables false
set_option linter.unusedSimpArgs false
set_option maxRecDepth 100000
namespace Go.Proofs.YtgloomahpjpiiaaGreat
open Go.VW
open Go.Instr (loadAt storeAt fieldAt indexAt)
noncomputable section
set_option linter.defProp false
variable {N : NT} {T : T3T} {M : MT} {G : GT} {H : HT} {Y : YT} {k : KT} {Q : Exit → Env → World → Prop} {e el eg : Env} {w u0 u1 u2 u3 u4 u5 u6 u7 u8 u9 : World}
/-! ### vouch/vouchlaw15.OriginReads -/
def V4 : Nat → Bool := fun i => [0, 1, 2, 3, 4, 5, 10, 11, 12, 13, 14, 15, 16, 17, 19, 27].elem i
def block4:=@s_block Tryz.prog 90 V4
def cond4:=@s_cond Tryz.prog 90 V4
def drw4:=@s_drw Tryz.prog 90 V4
def loop4:=@s_loop Tryz.prog 90 V4
def reg4:=@s_reg Tryz.prog 90 V4
def rend4:=@s_rend Tryz.prog 90 V4
def seq4:=@s_seq Tryz.prog 90 V4
noncomputable def c4:Code:=(Tryz.f4.body.getD .skip)
noncomputable def c4_1:=cR c4
noncomputable def c4_2:=cR c4_1
noncomputable def b4_3:List Row:=[(0, 0, 32, 21, true), (1, 1, 1048576, 22, false), (0, 0, 32, 23, true), (6, 7, 4194304, 24, false), (11, 15, 2097152, 12, true), (31, 31, 8388608, 13, true)]
noncomputable def c4_3:=cR c4_2
noncomputable def c4_4:=cR c4_3
noncomputable def c4_5:=cR c4_4
noncomputable def c4_6:=cR c4_5
noncomputable def b4_11:List Row:=[(0, 0, 16384, 59, true), (0, 0, 65536, 60, true), (3, 3, 864691128455135232, 61, true), (4, 7, 1152921504606846976, 62, true), (8, 15, 2305843009213726720, 63, true), (8, 15, 2305843009213825024, 64, true), (56, 63, 16140901064495857664, 65, true), (72, 127, 20752587082923245568, 66, true), (136, 255, 36893488147419103232, 67, true), (256, 511, 73786976294838208512, 68, true), (256, 511, 73786976294838206468, 69, true), (1792, 2047, 516508834063867445248, 70, false), (256, 511, 73786976294838210560, 71, true), (4352, 4607, 1254378597012249509888, 72, true), (8448, 12799, 2434970217729660813312, 73, true), (256, 511, 73786976294838206468, 74, true), (51456, 65535, 14240886424903773847552, 75, false), (67840, 131071, 19553548718132124712960, 76, true), (131328, 262143, 37852718839251999916032, 77, true), (327680, 524287, 75557863725914323419136, 78, true), (524288, 1048575, 151115727451828646840320, 79, true), (524288, 1048575, 151115727451828646838280, 80, true), (524288, 1048575, 151115727451828646838288, 81, true), (7864320, 8388607, 2266735911777429702574080, 82, false), (524288, 1048575, 151115727451828646842368, 83, true), (17301504, 17825791, 4986819005910345345662976, 84, true), (34078720, 51380223, 9822522284368862044487680, 85, true), (524288, 1048575, 151115727451828646838280, 86, true), (524288, 1048575, 151115727451828646838288, 87, true), (478674944, 536870911, 135550807524290296213929984, 88, false), (545783808, 1073741823, 157311472277353621358641152, 89, false), (1074266112, 2147483647, 309636125548796897371619328, 90, true), (4294967295, 4294967295, 618970019642690137449562112, 11, true)]
noncomputable def c4_7:=cL c4_3
noncomputable def c4_8:=cR c4_7
noncomputable def c4_9:=cL c4_8
noncomputable def c4_10:=cL c4_9
noncomputable def c4_11:=cR c4_10
noncomputable def c4_12:=cR c4_11
noncomputable def c4_13:=cL c4_11
noncomputable def c4_14:=cL c4_13
noncomputable def c4_15:=cR c4_14
noncomputable def c4_16:=cL c4_10
noncomputable def c4_17:=cR c4_16
noncomputable def c4_18:=cL c4_1
noncomputable def c4_19:=cR c4_18
noncomputable def c4_20:=cL c4_19
def c4_6_s:=@drw4 c4_6 .ret 11 (rO (cL c4_6)) b4_11 33 (fun N T M G H Y k e w =>
 T (FrX (some []) w) (xv (loadAt 57 (e 14))) fun t58 =>
 T (FrX (some []) w) (xv (loadAt 57 (e 16))) fun t59 =>
 T (FrX none w) (xv (xbin .eql 57 (.tmp 58) (.tmp 59) t58 t59)) fun t60 =>
 M t60 fun t61 =>
 H (isB t61 true) (fun K => M (e 15) K) (fun t62 =>
 H (isB t61 true) (fun K => M (e 17) K) (fun t63 =>
 H (isB t61 true) (fun K => T (FrX none w) (xv (xbin .eql 3 (.tmp 62) (.tmp 63) t62 t63)) K) (fun t64 =>
 T (FrX none w) (xpick t61 t64 (.bool false)) fun t65 =>
 M t65 fun t66 =>
 H (isB t66 true) (fun K => M (e 11) K) (fun t67 =>
 H (isB t66 true) (fun K => M (e 2) K) (fun t68 =>
 H (isB t66 true) (fun K => M (e 12) K) (fun t70 =>
 H (isB t66 true) (fun K => T (FrX none w) (xnil t70) K) (fun t71 =>
 H (isB t66 true) (fun K => T (FrX none w) (xv (fieldAt 52 t71 1)) K) (fun t72 =>
 H (isB t66 true) (fun K => M (e 2) K) (fun t73 =>
 G (isB t66 true) (fun K => N (xcall (.func (.func 18) #[] #[]) [t67, t68]) w K) (fun t69 w11 =>
 G (isB t66 true) (fun K => N (xcall (.func (.func 19) #[] #[]) [t72, t73]) w11 K) (fun t74 w16 =>
 H (isB t66 true) (fun K => T (FrX none w16) (xv (xbin .eql 2 (.tmp 69) (.tmp 74) t69 t74)) K) (fun t75 =>
 T (FrX none w16) (xpick t66 t75 (.bool false)) fun t76 =>
 M t76 fun t77 =>
 H (isB t77 true) (fun K => M (e 11) K) (fun t78 =>
 H (isB t77 true) (fun K => M (e 3) K) (fun t79 =>
 H (isB t77 true) (fun K => M (e 4) K) (fun t80 =>
 H (isB t77 true) (fun K => M (e 12) K) (fun t82 =>
 H (isB t77 true) (fun K => T (FrX none w16) (xnil t82) K) (fun t83 =>
 H (isB t77 true) (fun K => T (FrX none w16) (xv (fieldAt 52 t83 2)) K) (fun t84 =>
 H (isB t77 true) (fun K => M (e 3) K) (fun t85 =>
 H (isB t77 true) (fun K => M (e 4) K) (fun t86 =>
 G (isB t77 true) (fun K => N (xcall (.func (.func 14) #[] #[]) [t78, t79, t80]) w16 K) (fun t81 w23 =>
 G (isB t77 true) (fun K => N (xcall (.func (.func 15) #[] #[]) [t84, t85, t86]) w23 K) (fun t87 w29 =>
 G (isB t77 true) (fun K => N (xcall (.func (.func 13) #[] #[]) [t81, t87]) w29 K) (fun t88 w30 =>
 T (FrX none w30) (xpick t77 t88 (.bool false)) fun t89 =>
 M t89 fun t10 =>
 k (Env.p e 10 t10) w30) w29) w23) w16)))))))))) w11) w)))))))))) (by kernel_rfl) (by kernel_rfl) (by kernel_rfl) (by intros; kernel_rfl)
def c4_5_s:=@reg4 c4_5 c4_6 10 (rO (cL c4_5)) (fun N M G k e w =>
 M (e 12) fun t50 =>
 N (xnil t50) w fun t51 w =>
 N (xv (fieldAt 52 t51 1)) w fun t52 w =>
 M (e 2) fun t53 =>
 M (e 3) fun t54 =>
 N (xcall (.func (.func 17) #[] #[]) [t52, t53, t54]) w fun t55 w =>
 M t55 fun t49 =>
 N (xv (Instr.extract t49 0)) w fun t56 w =>
 N (xv (Instr.extract t49 1)) w fun t57 w =>
 N (xv (Instr.alloc 57 true (.tuple #[]))) w fun t16 w =>
 N (xu (storeAt 57 t16 t56)) w fun _ w =>
 M t57 fun t17 =>
 k (Env.p (Env.p e 16 t16) 17 t17) w) (by kernel_rfl) (by intros; kernel_rfl)
def c4_4_s:=@reg4 c4_4 c4_5 9 (rO (cL c4_4)) (fun N M G k e w =>
 M (e 11) fun t43 =>
 M (e 2) fun t44 =>
 M (e 3) fun t45 =>
 N (xcall (.func (.func 16) #[] #[]) [t43, t44, t45]) w fun t46 w =>
 M t46 fun t42 =>
 N (xv (Instr.extract t42 0)) w fun t47 w =>
 N (xv (Instr.extract t42 1)) w fun t48 w =>
 N (xv (Instr.alloc 57 true (.tuple #[]))) w fun t14 w =>
 N (xu (storeAt 57 t14 t47)) w fun _ w =>
 M t48 fun t15 =>
 k (Env.p (Env.p e 14 t14) 15 t15) w) (by kernel_rfl) (by intros; kernel_rfl)
def c4_12_s:=@rend4 c4_12 6 (rO c4_12) (fun N M G k e w =>
 M (e 13) fun t28 =>
 N (xv (xbin .add 3 (.tmp 28) (.const (.int .i64 1)) t28 (.int .i64 1))) w fun t29 w =>
 M t29 fun t13 =>
 k (Env.p e 13 t13) w) (by kernel_rfl) (by intros; kernel_rfl)
def c4_15_s:=@rend4 c4_15 8 (rO c4_15) (fun N M G k e w =>
 M (e 12) fun t36 =>
 M (e 1) fun t37 =>
 M (e 13) fun t38 =>
 N (xv (indexAt 24 t37 t38)) w fun t39 w =>
 N (xv (loadAt 40 t39)) w fun t40 w =>
 N (xcall (.func (.func 11) #[] #[]) [t36, t40]) w fun t41 w =>
 k e w) (by kernel_rfl) (by intros; kernel_rfl)
def c4_14_s:=@reg4 c4_14 c4_15 7 (rO (cL c4_14)) (fun N M G k e w =>
 M (e 11) fun t30 =>
 M (e 1) fun t31 =>
 M (e 13) fun t32 =>
 N (xv (indexAt 24 t31 t32)) w fun t33 w =>
 N (xv (loadAt 40 t33)) w fun t34 w =>
 N (xcall (.func (.func 10) #[] #[]) [t30, t34]) w fun t35 w =>
 k e w) (by kernel_rfl) (by intros; kernel_rfl)
def c4_13_s:=@block4 c4_13 c4_14 1 (by kernel_rfl)
def c4_11_s:=@seq4 c4_11 c4_12 c4_13 (by kernel_rfl)
def c4_17_s:=@cond4 c4_17 (.exit 0) 27 .skip (by kernel_rfl) (by kernel_rfl)
def c4_16_s:=@reg4 c4_16 c4_17 5 (rO (cL c4_16)) (fun N M G k e w =>
 M (e 13) fun t24 =>
 M (e 1) fun t25 =>
 N (builtin Builtin.len #[24] 3 ([false]).toArray ([t25]).toArray) w fun t26 w =>
 N (xv (xbin .lss 3 (.tmp 24) (.tmp 26) t24 t26)) w fun t27 w =>
 k (Env.p e 27 t27) w) (by kernel_rfl) (by intros; kernel_rfl)
def c4_10_s:=@seq4 c4_10 c4_11 c4_16 (by kernel_rfl)
def c4_9_s:=@loop4 c4_9 c4_10 (by kernel_rfl)
def c4_8_s:=@block4 c4_8 c4_9 0 (by kernel_rfl)
def c4_7_s:=@reg4 c4_7 c4_8 4 (rO (cL c4_7)) (fun N M G k e w =>
 M (.int .i64 0) fun t13 =>
 k (Env.p e 13 t13) w) (by kernel_rfl) (by intros; kernel_rfl)
def c4_3_s:=@seq4 c4_3 c4_4 c4_7 (by kernel_rfl)
def c4_2_s:=@drw4 c4_2 c4_3 3 (rO (cL c4_2)) b4_3 6 (fun N T M G H Y k e w =>
 T (FrX (some []) w) (xv (loadAt 23 (e 5))) fun t20 =>
 T (FrX (some []) w) (xv (loadAt 23 (e 5))) fun t22 =>
 N (xcall (.func (.func 7) #[] #[]) [t20]) w fun t21 w1 =>
 Y true (xv (loadAt 23 (e 5))) t22 w w1 ∧ (N (xcall (.func (.func 8) #[] #[]) [t22]) w1 fun t23 w3 =>
 M t21 fun t11 =>
 M t23 fun t12 =>
 k (Env.p (Env.p e 11 t11) 12 t12) w3)) (by kernel_rfl) (by kernel_rfl) (by kernel_rfl) (by intros; kernel_rfl)
def c4_20_s:=@reg4 c4_20 .ret 2 (rO (cL c4_20)) (fun N M G k e w =>
 M (.bool false) fun t10 =>
 k (Env.p e 10 t10) w) (by kernel_rfl) (by intros; kernel_rfl)
def c4_19_s:=@cond4 c4_19 .skip 19 c4_20 (by kernel_rfl) (by kernel_rfl)
def c4_18_s:=@reg4 c4_18 c4_19 1 (rO (cL c4_18)) (fun N M G k e w =>
 N (xcall (.func (.func 6) #[] #[]) []) w fun t18 w =>
 N (xv (Op.unary .not t18)) w fun t19 w =>
 k (Env.p e 19 t19) w) (by kernel_rfl) (by intros; kernel_rfl)
def c4_1_s:=@seq4 c4_1 c4_2 c4_18 (by kernel_rfl)
def c4_s:=@reg4 c4 c4_1 0 (rO (cL c4)) (fun N M G k e w =>
 N (xv (Instr.box 23 (e 0))) w fun t5 w =>
 M (.bool false) fun t10 =>
 k (Env.p (Env.p e 5 t5) 10 t10) w) (by kernel_rfl) (by intros; kernel_rfl)
theorem call4 {a0 a1 a2 a3 a4 : Value} {w : World} {R : Value → World → Prop} (h : W3 Tryz.prog 90 V4 c4 (retQ Tryz.prog [.tmp 10] R) (argE [a0, a1, a2, a3, a4]) w) : CallsN Tryz.prog 4 [a0, a1, a2, a3, a4] w R :=
 callsN_of_W3 (c := c4) (rs := [.tmp 10]) V4 Tryz.ntmps4 (by rw [Tryz.results4]) mixed Tryz.func4 (by kernel_rfl) (by kernel_rfl) (by kernel_rfl) (by kernel_rfl) (by simp) h
def w3t_4:=w3t Tryz.prog 90 V4
def hk4 := aI @c4_6_s <| aI @c4_5_s <| aI @c4_4_s <| aI @c4_12_s <| aI @c4_15_s <| aI @c4_14_s <| aI @c4_13_s <| aI @c4_11_s <| aI @c4_17_s <| aI @c4_16_s <| aI @c4_10_s <| aI @c4_9_s <| aI @c4_8_s <| aI @c4_7_s <| aI @c4_3_s <| aI @c4_2_s <| aI @c4_20_s <| aI @c4_19_s <| aI @c4_18_s <| aI @c4_1_s <| aI @c4_s <| @w3t_4
-- K4: ↓hk4
/-! ### (*vouch/origin.Origin) . Oldest -/
def V18 : Nat → Bool := fun i => [0, 1, 4, 6].elem i
def cond18:=@s_cond Tryz.prog 13 V18
def reg18:=@s_reg Tryz.prog 13 V18
def seq18:=@s_seq Tryz.prog 13 V18
noncomputable def c18:Code:=(Tryz.f18.body.getD .skip)
noncomputable def c18_1:=cR c18
noncomputable def c18_2:=cR c18_1
noncomputable def c18_3:=cL c18_1
noncomputable def c18_4:=cR c18_3
noncomputable def c18_5:=cL c18_4
def c18_2_s:=@reg18 c18_2 .ret 3 (rO (cL c18_2)) (fun N M G k e w =>
 M (e 0) fun t7 =>
 N (xnil t7) w fun t8 w =>
 N (xv (fieldAt 80 t8 1)) w fun t9 w =>
 N (xv (loadAt 74 t9)) w fun t10 w =>
 M (e 1) fun t11 =>
 N (xcall (.func (.func 43) #[] #[]) [t10, t11]) w fun t12 w =>
 M t12 fun t4 =>
 k (Env.p e 4 t4) w) (by kernel_rfl) (by intros; kernel_rfl)
def c18_5_s:=@reg18 c18_5 .ret 2 (rO (cL c18_5)) (fun N M G k e w =>
 M (.int .i64 0) fun t4 =>
 k (Env.p e 4 t4) w) (by kernel_rfl) (by intros; kernel_rfl)
def c18_4_s:=@cond18 c18_4 .skip 6 c18_5 (by kernel_rfl) (by kernel_rfl)
def c18_3_s:=@reg18 c18_3 c18_4 1 (rO (cL c18_3)) (fun N M G k e w =>
 M (e 0) fun t5 =>
 N (xv (xbin .eql 26 (.tmp 5) (.const (.pointer none)) t5 (.pointer none))) w fun t6 w =>
 k (Env.p e 6 t6) w) (by kernel_rfl) (by intros; kernel_rfl)
def c18_1_s:=@seq18 c18_1 c18_2 c18_3 (by kernel_rfl)
def c18_s:=@reg18 c18 c18_1 0 (rO (cL c18)) (fun N M G k e w =>
 M (.int .i64 0) fun t4 =>
 k (Env.p e 4 t4) w) (by kernel_rfl) (by intros; kernel_rfl)
theorem call18 {a0 a1 : Value} {w : World} {R : Value → World → Prop} (h : W3 Tryz.prog 13 V18 c18 (retQ Tryz.prog [.tmp 4] R) (argE [a0, a1]) w) : CallsN Tryz.prog 18 [a0, a1] w R :=
 callsN_of_W3 (c := c18) (rs := [.tmp 4]) V18 Tryz.ntmps18 (by rw [Tryz.results18]) mixed Tryz.func18 (by kernel_rfl) (by kernel_rfl) (by kernel_rfl) (by kernel_rfl) (by simp) h
def w3t_18:=w3t Tryz.prog 13 V18
def hk18 := aI @c18_2_s <| aI @c18_5_s <| aI @c18_4_s <| aI @c18_3_s <| aI @c18_1_s <| aI @c18_s <| @w3t_18
-- K18: ↓hk18
/-! ### (*vouch/origin.Origin) . Read -/
def V16 : Nat → Bool := fun i => [0, 1, 2, 6, 7, 9].elem i
def cond16:=@s_cond Tryz.prog 20 V16
def reg16:=@s_reg Tryz.prog 20 V16
def seq16:=@s_seq Tryz.prog 20 V16
noncomputable def c16:Code:=(Tryz.f16.body.getD .skip)
noncomputable def c16_1:=cR c16
noncomputable def c16_2:=cR c16_1
noncomputable def c16_3:=cL c16_1
noncomputable def c16_4:=cR c16_3
noncomputable def c16_5:=cL c16_4
def c16_2_s:=@reg16 c16_2 .ret 3 (rO (cL c16_2)) (fun N M G k e w =>
 M (e 0) fun t11 =>
 N (xnil t11) w fun t12 w =>
 N (xv (fieldAt 80 t12 1)) w fun t13 w =>
 N (xv (loadAt 74 t13)) w fun t14 w =>
 M (e 1) fun t15 =>
 M (e 2) fun t16 =>
 N (xcall (.func (.func 40) #[] #[]) [t14, t15, t16]) w fun t17 w =>
 N (xv (Instr.extract t17 0)) w fun t18 w =>
 N (xv (Instr.extract t17 1)) w fun t19 w =>
 N (xu (storeAt 57 (e 6) t18)) w fun _ w =>
 M t19 fun t7 =>
 k (Env.p e 7 t7) w) (by kernel_rfl) (by intros; kernel_rfl)
def c16_5_s:=@reg16 c16_5 .ret 2 (rO (cL c16_5)) (fun N M G k e w =>
 N (xv (Instr.build 57 ([]).toArray)) w fun t10 w =>
 N (xu (storeAt 57 (e 6) t10)) w fun _ w =>
 M (.int .i64 3) fun t7 =>
 k (Env.p e 7 t7) w) (by kernel_rfl) (by intros; kernel_rfl)
def c16_4_s:=@cond16 c16_4 .skip 9 c16_5 (by kernel_rfl) (by kernel_rfl)
def c16_3_s:=@reg16 c16_3 c16_4 1 (rO (cL c16_3)) (fun N M G k e w =>
 M (e 0) fun t8 =>
 N (xv (xbin .eql 26 (.tmp 8) (.const (.pointer none)) t8 (.pointer none))) w fun t9 w =>
 k (Env.p e 9 t9) w) (by kernel_rfl) (by intros; kernel_rfl)
def c16_1_s:=@seq16 c16_1 c16_2 c16_3 (by kernel_rfl)
def c16_s:=@reg16 c16 c16_1 0 (rO (cL c16)) (fun N M G k e w =>
 N (xv (Instr.alloc 57 true (.tuple #[]))) w fun t6 w =>
 M (.int .i64 0) fun t7 =>
 k (Env.p (Env.p e 6 t6) 7 t7) w) (by kernel_rfl) (by intros; kernel_rfl)
theorem call16 {a0 a1 a2 : Value} {w : World} {R : Value → World → Prop} (h : W3 Tryz.prog 20 V16 c16 (retQ Tryz.prog [.cell 6 57, .tmp 7] R) (argE [a0, a1, a2]) w) : CallsN Tryz.prog 16 [a0, a1, a2] w R :=
 callsN_of_W3 (c := c16) (rs := [.cell 6 57, .tmp 7]) V16 Tryz.ntmps16 (by rw [Tryz.results16]) mixed Tryz.func16 (by kernel_rfl) (by kernel_rfl) (by kernel_rfl) (by kernel_rfl) (by simp) h
def w3t_16:=w3t Tryz.prog 20 V16
def hk16 := aI @c16_2_s <| aI @c16_5_s <| aI @c16_4_s <| aI @c16_3_s <| aI @c16_1_s <| aI @c16_s <| @w3t_16
-- K16: ↓hk16
end
end Go.Proofs.YtgloomahpjpiiaaGreat
