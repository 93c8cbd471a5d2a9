/- The equations of the code of some functions, written by the printer gen3.py: each is checked by the kernel. -/
import Derived.Test.YtgloomahpjpiiaaGreatQ0
import Derived.Test.YtgloomahpjpiiaaGreatCI
set_option linter.unusedVariables false
set_option linter.unusedSimpArgs false
set_option maxRecDepth 100000
namespace Go.Proofs.YtgloomahpjpiiaaGreat
open Go.VW
open Go.Instr (loadAt storeAt fieldAt indexAt)
noncomputable section
set_option linter.defProp false
variable {N : NT} {T : T3T} {M : MT} {G : GT} {H : HT} {Y : YT} {k : KT} {Q : Exit → Env → World → Prop} {e el eg : Env} {w u0 u1 u2 u3 u4 u5 u6 u7 u8 u9 : World}
/-! ### vouch/vouchref13.Check -/
def V34 : Nat → Bool := fun i => [0, 1, 2, 3, 4, 8, 45, 54, 55, 63, 77, 96, 108, 126, 139, 147, 157].elem i
def block34:=@s_block Tryz.prog 158 V34
def cond34:=@s_cond Tryz.prog 158 V34
def drw34:=@s_drw Tryz.prog 158 V34
def reg34:=@s_reg Tryz.prog 158 V34
def rend34:=@s_rend Tryz.prog 158 V34
def seq34:=@s_seq Tryz.prog 158 V34
noncomputable def c34:Code:=(Tryz.f34.body.getD .skip)
noncomputable def c34_1:=cR c34
noncomputable def c34_2:=cR c34_1
noncomputable def c34_3:=cR c34_2
noncomputable def b34_4:List Row:=[(0, 0, 2, 10, true), (0, 0, 2, 11, true), (2, 2, 1024, 12, false), (5, 7, 2560, 13, false), (8, 15, 4096, 14, true), (16, 31, 8194, 15, true), (48, 63, 24576, 16, true), (80, 127, 40960, 17, false), (144, 255, 73728, 18, true), (384, 511, 131072, 19, true), (512, 1023, 262146, 20, true), (1536, 2047, 786432, 21, true), (2560, 4095, 1310720, 22, false), (4608, 8191, 2359296, 23, true), (12288, 16383, 4194304, 24, true), (16384, 32767, 8388610, 25, true), (49152, 65535, 25165824, 26, true), (81920, 131071, 41943040, 27, false), (147456, 262143, 75497472, 28, true), (393216, 524287, 134217728, 29, true), (524288, 1048575, 268435458, 30, true), (1572864, 2097151, 805306368, 31, true), (2621440, 4194303, 1342177280, 32, false), (4718592, 8388607, 2415919104, 33, true), (12582912, 16777215, 4294967296, 34, true), (16777216, 33554431, 8589934594, 35, true), (50331648, 67108863, 25769803776, 36, true), (83886080, 134217727, 42949672960, 37, true), (150994944, 268435455, 77309411328, 38, true), (285212672, 536870911, 137438953472, 39, true), (536870912, 1073741823, 274877906946, 40, true), (1610612736, 2147483647, 824633720832, 41, true), (2684354560, 4294967295, 1374389534720, 42, true), (4831838208, 8589934591, 2473901162496, 43, true), (17179869183, 17179869183, 4398046511104, 5, true)]
noncomputable def c34_4:=cR c34_3
noncomputable def c34_5:=cR c34_4
noncomputable def c34_6:=cR c34_5
noncomputable def c34_7:=cR c34_6
noncomputable def c34_8:=cL c34_6
noncomputable def c34_9:=cR c34_8
noncomputable def c34_10:=cL c34_9
noncomputable def c34_11:=cL c34_5
noncomputable def c34_12:=cR c34_11
noncomputable def c34_13:=cL c34_12
noncomputable def c34_14:=cR c34_13
noncomputable def c34_15:=cL c34_14
noncomputable def c34_16:=cR c34_14
noncomputable def c34_17:=cR c34_16
noncomputable def c34_18:=cL c34_17
noncomputable def c34_19:=cR c34_17
noncomputable def c34_20:=cR c34_19
noncomputable def c34_21:=cL c34_20
noncomputable def c34_22:=cR c34_21
noncomputable def c34_23:=cL c34_22
noncomputable def c34_24:=cR c34_20
noncomputable def c34_25:=cR c34_24
noncomputable def c34_26:=cL c34_25
noncomputable def c34_27:=cR c34_25
noncomputable def c34_28:=cR c34_27
noncomputable def c34_29:=cL c34_28
noncomputable def c34_30:=cR c34_28
noncomputable def c34_31:=cR c34_30
noncomputable def c34_32:=cL c34_31
noncomputable def c34_33:=cR c34_31
noncomputable def c34_34:=cR c34_33
noncomputable def c34_35:=cL c34_34
noncomputable def c34_36:=cL c34_33
noncomputable def c34_37:=cR c34_36
noncomputable def c34_38:=cR c34_37
noncomputable def c34_39:=cL c34_19
noncomputable def c34_40:=cR c34_39
noncomputable def c34_41:=cR c34_40
noncomputable def c34_42:=cL c34_16
noncomputable def c34_43:=cR c34_42
noncomputable def c34_44:=cR c34_43
noncomputable def c34_45:=cL c34_4
noncomputable def c34_46:=cR c34_45
noncomputable def c34_47:=cL c34_46
noncomputable def c34_48:=cL c34_1
noncomputable def c34_49:=cR c34_48
noncomputable def c34_50:=cL c34_49
def c34_7_s:=@reg34 c34_7 .ret 28 (rO (cL c34_7)) (fun N M G k e w =>
 M (.int .i64 1) fun t2 =>
 k (Env.p e 2 t2) w) (by kernel_rfl) (by intros; kernel_rfl)
def c34_10_s:=@reg34 c34_10 .ret 27 (rO (cL c34_10)) (fun N M G k e w =>
 M (.int .i64 0) fun t2 =>
 k (Env.p e 2 t2) w) (by kernel_rfl) (by intros; kernel_rfl)
def c34_9_s:=@cond34 c34_9 .skip 157 c34_10 (by kernel_rfl) (by kernel_rfl)
def c34_8_s:=@reg34 c34_8 c34_9 26 (rO (cL c34_8)) (fun N M G k e w =>
 M (e 4) fun t157 =>
 k (Env.p e 157 t157) w) (by kernel_rfl) (by intros; kernel_rfl)
def c34_6_s:=@seq34 c34_6 c34_7 c34_8 (by kernel_rfl)
def c34_15_s:=@rend34 c34_15 9 (rO c34_15) (fun N M G k e w =>
 M (e 4) fun t57 =>
 M t57 fun t58 =>
 G (isB t58 true) (fun K => N (xv (fieldAt 40 (e 1) 12)) w K) (fun t59 w =>
 G (isB t58 true) (fun K => N (xv (loadAt 37 t59)) w K) (fun t60 w =>
 G (isB t58 true) (fun K => N (xcall (.func (.func 62) #[] #[]) [t60]) w K) (fun t61 w =>
 N (xpick t58 t61 (.bool false)) w fun t62 w =>
 M t62 fun t4 =>
 k (Env.p e 4 t4) w) w) w) w) (by kernel_rfl) (by intros; kernel_rfl)
def c34_18_s:=@rend34 c34_18 12 (rO c34_18) (fun N M G k e w =>
 M (e 4) fun t66 =>
 M t66 fun t67 =>
 G (isB t67 true) (fun K => N (xv (fieldAt 40 (e 1) 6)) w K) (fun t68 w =>
 G (isB t67 true) (fun K => N (xv (loadAt 9 t68)) w K) (fun t69 w =>
 G (isB t67 true) (fun K => N (xcall (.func (.func 41) #[] #[]) [t69]) w K) (fun t70 w =>
 N (xpick t67 t70 (.bool false)) w fun t71 w =>
 M t71 fun t72 =>
 G (isB t72 true) (fun K => N (xv (fieldAt 40 (e 1) 7)) w K) (fun t73 w =>
 G (isB t72 true) (fun K => N (xv (loadAt 33 t73)) w K) (fun t74 w =>
 G (isB t72 true) (fun K => N (xcall (.func (.func 63) #[] #[]) [t74]) w K) (fun t75 w =>
 N (xpick t72 t75 (.bool false)) w fun t76 w =>
 M t76 fun t4 =>
 k (Env.p e 4 t4) w) w) w) w) w) w) w) (by kernel_rfl) (by intros; kernel_rfl)
def c34_23_s:=@rend34 c34_23 16 (rO c34_23) (fun N M G k e w =>
 M (e 4) fun t97 =>
 M t97 fun t98 =>
 G (isB t98 true) (fun K => N (xv (fieldAt 40 (e 1) 8)) w K) (fun t99 w =>
 G (isB t98 true) (fun K => N (xv (loadAt 35 t99)) w K) (fun t100 w =>
 G (isB t98 true) (fun K => N (xcall (.func (.func 64) #[] #[]) [t100]) w K) (fun t101 w =>
 N (xpick t98 t101 (.bool false)) w fun t102 w =>
 M t102 fun t103 =>
 G (isB t103 true) (fun K => N (xv (fieldAt 40 (e 1) 7)) w K) (fun t104 w =>
 G (isB t103 true) (fun K => N (xv (loadAt 33 t104)) w K) (fun t105 w =>
 G (isB t103 true) (fun K => N (xcall (.func (.func 63) #[] #[]) [t105]) w K) (fun t106 w =>
 N (xpick t103 t106 (.bool false)) w fun t107 w =>
 M t107 fun t4 =>
 k (Env.p e 4 t4) w) w) w) w) w) w) w) (by kernel_rfl) (by intros; kernel_rfl)
def c34_22_s:=@cond34 c34_22 .skip 96 c34_23 (by kernel_rfl) (by kernel_rfl)
def c34_21_s:=@reg34 c34_21 c34_22 15 (rO (cL c34_21)) (fun N M G k e w =>
 N (xv (fieldAt 40 (e 1) 0)) w fun t80 w =>
 N (xv (loadAt 3 t80)) w fun t81 w =>
 N (xv (xbin .eql 3 (.tmp 81) (.const (.int .i64 4)) t81 (.int .i64 4))) w fun t82 w =>
 M t82 fun t83 =>
 G (isB t83 true) (fun K => N (xv (fieldAt 40 (e 1) 9)) w K) (fun t84 w =>
 G (isB t83 true) (fun K => N (xv (loadAt 4 t84)) w K) (fun t85 w =>
 N (xpick t83 t85 (.bool false)) w fun t86 w =>
 M t86 fun t87 =>
 G (isB t87 false) (fun K => N (xv (fieldAt 40 (e 1) 0)) w K) (fun t88 w =>
 G (isB t87 false) (fun K => N (xv (loadAt 3 t88)) w K) (fun t89 w =>
 G (isB t87 false) (fun K => N (xv (xbin .eql 3 (.tmp 89) (.const (.int .i64 6)) t89 (.int .i64 6))) w K) (fun t90 w =>
 G (isB t87 false) (fun K => M t90 fun v => K v w) (fun t91 w =>
 G (isB t91 true) (fun K => N (xv (fieldAt 40 (e 1) 10)) w K) (fun t92 w =>
 G (isB t91 true) (fun K => N (xv (loadAt 36 t92)) w K) (fun t93 w =>
 G (isB t91 true) (fun K => N (xv (xbin .eql 36 (.tmp 93) (.const (.int .i64 0)) t93 (.int .i64 0))) w K) (fun t94 w =>
 G (isB t87 false) (fun K => N (xpick t91 t94 (.bool false)) w K) (fun t95 w =>
 N (xpick t87 (.bool true) t95) w fun t96 w =>
 k (Env.p e 96 t96) w) w) w) w) w) w) w) w) w) w) w) (by kernel_rfl) (by intros; kernel_rfl)
def c34_26_s:=@rend34 c34_26 18 (rO c34_26) (fun N M G k e w =>
 M (e 4) fun t110 =>
 M t110 fun t111 =>
 G (isB t111 true) (fun K => N (xv (fieldAt 40 (e 1) 6)) w K) (fun t112 w =>
 G (isB t111 true) (fun K => N (xv (loadAt 9 t112)) w K) (fun t113 w =>
 G (isB t111 true) (fun K => N (xcall (.func (.func 41) #[] #[]) [t113]) w K) (fun t114 w =>
 N (xpick t111 t114 (.bool false)) w fun t115 w =>
 M t115 fun t116 =>
 G (isB t116 true) (fun K => N (xv (fieldAt 40 (e 1) 8)) w K) (fun t117 w =>
 G (isB t116 true) (fun K => N (xv (loadAt 35 t117)) w K) (fun t118 w =>
 G (isB t116 true) (fun K => N (xcall (.func (.func 64) #[] #[]) [t118]) w K) (fun t119 w =>
 N (xpick t116 t119 (.bool false)) w fun t120 w =>
 M t120 fun t121 =>
 G (isB t121 true) (fun K => N (xv (fieldAt 40 (e 1) 7)) w K) (fun t122 w =>
 G (isB t121 true) (fun K => N (xv (loadAt 33 t122)) w K) (fun t123 w =>
 G (isB t121 true) (fun K => N (xcall (.func (.func 63) #[] #[]) [t123]) w K) (fun t124 w =>
 N (xpick t121 t124 (.bool false)) w fun t125 w =>
 M t125 fun t4 =>
 k (Env.p e 4 t4) w) w) w) w) w) w) w) w) w) w) (by kernel_rfl) (by intros; kernel_rfl)
def c34_29_s:=@rend34 c34_29 20 (rO c34_29) (fun N M G k e w =>
 M (e 4) fun t128 =>
 M t128 fun t129 =>
 G (isB t129 true) (fun K => N (xv (fieldAt 40 (e 1) 11)) w K) (fun t130 w =>
 G (isB t129 true) (fun K => N (xv (loadAt 2 t130)) w K) (fun t131 w =>
 G (isB t129 true) (fun K => N (xv (xbin .geq 2 (.tmp 131) (.const (.int .i64 1)) t131 (.int .i64 1))) w K) (fun t132 w =>
 N (xpick t129 t132 (.bool false)) w fun t133 w =>
 M t133 fun t134 =>
 G (isB t134 true) (fun K => N (xv (fieldAt 40 (e 1) 13)) w K) (fun t135 w =>
 G (isB t134 true) (fun K => N (xv (loadAt 38 t135)) w K) (fun t136 w =>
 G (isB t134 true) (fun K => N (xcall (.func (.func 65) #[] #[]) [t136]) w K) (fun t137 w =>
 N (xpick t134 t137 (.bool false)) w fun t138 w =>
 M t138 fun t4 =>
 k (Env.p e 4 t4) w) w) w) w) w) w) w) (by kernel_rfl) (by intros; kernel_rfl)
def c34_32_s:=@rend34 c34_32 22 (rO c34_32) (fun N M G k e w =>
 M (e 4) fun t141 =>
 M t141 fun t142 =>
 G (isB t142 true) (fun K => N (xv (fieldAt 40 (e 1) 11)) w K) (fun t143 w =>
 G (isB t142 true) (fun K => N (xv (loadAt 2 t143)) w K) (fun t144 w =>
 G (isB t142 true) (fun K => N (xv (xbin .geq 2 (.tmp 144) (.const (.int .i64 1)) t144 (.int .i64 1))) w K) (fun t145 w =>
 N (xpick t142 t145 (.bool false)) w fun t146 w =>
 M t146 fun t4 =>
 k (Env.p e 4 t4) w) w) w) w) (by kernel_rfl) (by intros; kernel_rfl)
def c34_35_s:=@rend34 c34_35 25 (rO c34_35) (fun N M G k e w =>
 M (e 4) fun t150 =>
 M t150 fun t151 =>
 G (isB t151 true) (fun K => N (xv (fieldAt 40 (e 1) 2)) w K) (fun t152 w =>
 G (isB t151 true) (fun K => N (xv (loadAt 3 t152)) w K) (fun t153 w =>
 G (isB t151 true) (fun K => M (e 3) fun v => K v w) (fun t154 w =>
 G (isB t151 true) (fun K => N (xcall (.func (.func 60) #[] #[]) [t153, (.int .i64 1), t154]) w K) (fun t155 w =>
 N (xpick t151 t155 (.bool false)) w fun t156 w =>
 M t156 fun t4 =>
 k (Env.p e 4 t4) w) w) w) w) w) (by kernel_rfl) (by intros; kernel_rfl)
def c34_34_s:=@cond34 c34_34 .skip 147 c34_35 (by kernel_rfl) (by kernel_rfl)
def c34_38_s:=@rend34 c34_38 24 (rO c34_38) (fun N M G k e w =>
 N (xv (xbin .eql 3 (.tmp 54) (.const (.int .i64 11)) (e 54) (.int .i64 11))) w fun t149 w =>
 M t149 fun t147 =>
 k (Env.p e 147 t147) w) (by kernel_rfl) (by intros; kernel_rfl)
def c34_37_s:=@cond34 c34_37 c34_38 147 .skip (by kernel_rfl) (by kernel_rfl)
def c34_36_s:=@reg34 c34_36 c34_37 23 (rO (cL c34_36)) (fun N M G k e w =>
 N (xv (xbin .eql 3 (.tmp 54) (.const (.int .i64 10)) (e 54) (.int .i64 10))) w fun t148 w =>
 M t148 fun t147 =>
 k (Env.p e 147 t147) w) (by kernel_rfl) (by intros; kernel_rfl)
def c34_33_s:=@seq34 c34_33 c34_34 c34_36 (by kernel_rfl)
def c34_31_s:=@cond34 c34_31 c34_33 139 c34_32 (by kernel_rfl) (by kernel_rfl)
def c34_30_s:=@reg34 c34_30 c34_31 21 (rO (cL c34_30)) (fun N M G k e w =>
 N (xv (xbin .eql 3 (.tmp 54) (.const (.int .i64 9)) (e 54) (.int .i64 9))) w fun t140 w =>
 M t140 fun t139 =>
 k (Env.p e 139 t139) w) (by kernel_rfl) (by intros; kernel_rfl)
def c34_28_s:=@cond34 c34_28 c34_30 126 c34_29 (by kernel_rfl) (by kernel_rfl)
def c34_27_s:=@reg34 c34_27 c34_28 19 (rO (cL c34_27)) (fun N M G k e w =>
 N (xv (xbin .eql 3 (.tmp 54) (.const (.int .i64 8)) (e 54) (.int .i64 8))) w fun t127 w =>
 M t127 fun t126 =>
 k (Env.p e 126 t126) w) (by kernel_rfl) (by intros; kernel_rfl)
def c34_25_s:=@cond34 c34_25 c34_27 108 c34_26 (by kernel_rfl) (by kernel_rfl)
def c34_24_s:=@reg34 c34_24 c34_25 17 (rO (cL c34_24)) (fun N M G k e w =>
 N (xv (xbin .eql 3 (.tmp 54) (.const (.int .i64 7)) (e 54) (.int .i64 7))) w fun t109 w =>
 M t109 fun t108 =>
 k (Env.p e 108 t108) w) (by kernel_rfl) (by intros; kernel_rfl)
def c34_20_s:=@cond34 c34_20 c34_24 77 c34_21 (by kernel_rfl) (by kernel_rfl)
def c34_41_s:=@rend34 c34_41 14 (rO c34_41) (fun N M G k e w =>
 N (xv (xbin .eql 3 (.tmp 54) (.const (.int .i64 6)) (e 54) (.int .i64 6))) w fun t79 w =>
 M t79 fun t77 =>
 k (Env.p e 77 t77) w) (by kernel_rfl) (by intros; kernel_rfl)
def c34_40_s:=@cond34 c34_40 c34_41 77 .skip (by kernel_rfl) (by kernel_rfl)
def c34_39_s:=@reg34 c34_39 c34_40 13 (rO (cL c34_39)) (fun N M G k e w =>
 N (xv (xbin .eql 3 (.tmp 54) (.const (.int .i64 4)) (e 54) (.int .i64 4))) w fun t78 w =>
 M t78 fun t77 =>
 k (Env.p e 77 t77) w) (by kernel_rfl) (by intros; kernel_rfl)
def c34_19_s:=@seq34 c34_19 c34_20 c34_39 (by kernel_rfl)
def c34_17_s:=@cond34 c34_17 c34_19 63 c34_18 (by kernel_rfl) (by kernel_rfl)
def c34_44_s:=@rend34 c34_44 11 (rO c34_44) (fun N M G k e w =>
 N (xv (xbin .eql 3 (.tmp 54) (.const (.int .i64 5)) (e 54) (.int .i64 5))) w fun t65 w =>
 M t65 fun t63 =>
 k (Env.p e 63 t63) w) (by kernel_rfl) (by intros; kernel_rfl)
def c34_43_s:=@cond34 c34_43 c34_44 63 .skip (by kernel_rfl) (by kernel_rfl)
def c34_42_s:=@reg34 c34_42 c34_43 10 (rO (cL c34_42)) (fun N M G k e w =>
 N (xv (xbin .eql 3 (.tmp 54) (.const (.int .i64 3)) (e 54) (.int .i64 3))) w fun t64 w =>
 M t64 fun t63 =>
 k (Env.p e 63 t63) w) (by kernel_rfl) (by intros; kernel_rfl)
def c34_16_s:=@seq34 c34_16 c34_17 c34_42 (by kernel_rfl)
def c34_14_s:=@cond34 c34_14 c34_16 55 c34_15 (by kernel_rfl) (by kernel_rfl)
def c34_13_s:=@reg34 c34_13 c34_14 8 (rO (cL c34_13)) (fun N M G k e w =>
 N (xv (xbin .eql 3 (.tmp 54) (.const (.int .i64 1)) (e 54) (.int .i64 1))) w fun t56 w =>
 M t56 fun t55 =>
 k (Env.p e 55 t55) w) (by kernel_rfl) (by intros; kernel_rfl)
def c34_12_s:=@block34 c34_12 c34_13 0 (by kernel_rfl)
def c34_11_s:=@reg34 c34_11 c34_12 7 (rO (cL c34_11)) (fun N M G k e w =>
 N (xv (fieldAt 40 (e 1) 0)) w fun t53 w =>
 N (xv (loadAt 3 t53)) w fun t54 w =>
 k (Env.p e 54 t54) w) (by kernel_rfl) (by intros; kernel_rfl)
def c34_5_s:=@seq34 c34_5 c34_6 c34_11 (by kernel_rfl)
def c34_47_s:=@rend34 c34_47 6 (rO c34_47) (fun N M G k e w =>
 M (e 4) fun t46 =>
 M t46 fun t47 =>
 G (isB t47 true) (fun K => N (xv (fieldAt 40 (e 1) 5)) w K) (fun t48 w =>
 G (isB t47 true) (fun K => N (xv (loadAt 3 t48)) w K) (fun t49 w =>
 G (isB t47 true) (fun K => M (e 3) fun v => K v w) (fun t50 w =>
 G (isB t47 true) (fun K => N (xcall (.func (.func 60) #[] #[]) [t49, (.int .i64 1), t50]) w K) (fun t51 w =>
 N (xpick t47 t51 (.bool false)) w fun t52 w =>
 M t52 fun t4 =>
 k (Env.p e 4 t4) w) w) w) w) w) (by kernel_rfl) (by intros; kernel_rfl)
def c34_46_s:=@cond34 c34_46 .skip 45 c34_47 (by kernel_rfl) (by kernel_rfl)
def c34_45_s:=@reg34 c34_45 c34_46 5 (rO (cL c34_45)) (fun N M G k e w =>
 N (xv (fieldAt 40 (e 1) 0)) w fun t43 w =>
 N (xv (loadAt 3 t43)) w fun t44 w =>
 N (xv (xbin .leq 3 (.tmp 44) (.const (.int .i64 6)) t44 (.int .i64 6))) w fun t45 w =>
 k (Env.p e 45 t45) w) (by kernel_rfl) (by intros; kernel_rfl)
def c34_4_s:=@seq34 c34_4 c34_5 c34_45 (by kernel_rfl)
def c34_3_s:=@drw34 c34_3 c34_4 4 (rO (cL c34_3)) b34_4 35 (fun N T M G H Y k e w =>
 T (FrX (some []) w) (xv (loadAt 40 (e 1))) fun t9 =>
 T (FrX (some []) w) (xv (loadAt 40 (e 1))) fun t10 =>
 N (xcall (.func (.func 61) #[] #[]) [t10]) w fun t11 w2 =>
 Y true (xv (loadAt 40 (e 1))) t9 w w2 ∧ (N (xcall (.func (.func 20) #[] #[]) [t9, t11]) w2 fun t12 w3 =>
 M t12 fun t13 =>
 H (isB t13 true) (fun K => T (FrX none w3) (xv (fieldAt 40 (e 1) 1)) K) (fun t14 =>
 H (isB t13 true) (fun K => T (FrX (some []) w3) (xv (loadAt 3 t14)) K) (fun t15 =>
 G (isB t13 true) (fun K => N (xcall (.func (.func 60) #[] #[]) [t15, (.int .i64 0), (.int .i64 7)]) w3 K) (fun t16 w7 =>
 T (FrX none w7) (xpick t13 t16 (.bool false)) fun t17 =>
 M t17 fun t18 =>
 H (isB t18 true) (fun K => T (FrX none w7) (xv (fieldAt 40 (e 1) 3)) K) (fun t19 =>
 H (isB t18 true) (fun K => T (FrX (some []) w7) (xv (loadAt 3 t19)) K) (fun t20 =>
 G (isB t18 true) (fun K => N (xcall (.func (.func 60) #[] #[]) [t20, (.int .i64 0), (.int .i64 63)]) w7 K) (fun t21 w12 =>
 T (FrX none w12) (xpick t18 t21 (.bool false)) fun t22 =>
 M t22 fun t23 =>
 H (isB t23 true) (fun K => T (FrX none w12) (xv (fieldAt 40 (e 1) 4)) K) (fun t24 =>
 H (isB t23 true) (fun K => T (FrX (some []) w12) (xv (loadAt 3 t24)) K) (fun t25 =>
 G (isB t23 true) (fun K => N (xcall (.func (.func 60) #[] #[]) [t25, (.int .i64 0), (.int .i64 255)]) w12 K) (fun t26 w17 =>
 T (FrX none w17) (xpick t23 t26 (.bool false)) fun t27 =>
 M t27 fun t28 =>
 H (isB t28 true) (fun K => T (FrX none w17) (xv (fieldAt 40 (e 1) 10)) K) (fun t29 =>
 H (isB t28 true) (fun K => T (FrX (some []) w17) (xv (loadAt 36 t29)) K) (fun t30 =>
 G (isB t28 true) (fun K => N (xcall (.func (.func 60) #[] #[]) [t30, (.int .i64 0), (.int .i64 255)]) w17 K) (fun t31 w22 =>
 T (FrX none w22) (xpick t28 t31 (.bool false)) fun t32 =>
 M t32 fun t33 =>
 H (isB t33 true) (fun K => T (FrX none w22) (xv (fieldAt 40 (e 1) 11)) K) (fun t34 =>
 H (isB t33 true) (fun K => T (FrX (some []) w22) (xv (loadAt 2 t34)) K) (fun t35 =>
 H (isB t33 true) (fun K => T (FrX none w22) (xv (xbin .geq 2 (.tmp 35) (.const (.int .i64 0)) t35 (.int .i64 0))) K) (fun t36 =>
 T (FrX none w22) (xpick t33 t36 (.bool false)) fun t37 =>
 M t37 fun t38 =>
 H (isB t38 true) (fun K => T (FrX none w22) (xv (fieldAt 40 (e 1) 11)) K) (fun t39 =>
 H (isB t38 true) (fun K => T (FrX (some []) w22) (xv (loadAt 2 t39)) K) (fun t40 =>
 H (isB t38 true) (fun K => T (FrX none w22) (xv (xbin .leq 2 (.tmp 40) (.const (.int .i64 1099511627776)) t40 (.int .i64 1099511627776))) K) (fun t41 =>
 T (FrX none w22) (xpick t38 t41 (.bool false)) fun t42 =>
 M t42 fun t4 =>
 k (Env.p e 4 t4) w22))))))) w17))) w12))) w7))) w3)))) (by kernel_rfl) (by kernel_rfl) (by kernel_rfl) (by intros; kernel_rfl)
def c34_2_s:=@reg34 c34_2 c34_3 3 (rO (cL c34_2)) (fun N M G k e w =>
 M (.int .i64 2147483647) fun t3 =>
 k (Env.p e 3 t3) w) (by kernel_rfl) (by intros; kernel_rfl)
def c34_50_s:=@reg34 c34_50 .ret 2 (rO (cL c34_50)) (fun N M G k e w =>
 M (.int .i64 13) fun t2 =>
 k (Env.p e 2 t2) w) (by kernel_rfl) (by intros; kernel_rfl)
def c34_49_s:=@cond34 c34_49 .skip 8 c34_50 (by kernel_rfl) (by kernel_rfl)
def c34_48_s:=@reg34 c34_48 c34_49 1 (rO (cL c34_48)) (fun N M G k e w =>
 N (xv (fieldAt 40 (e 1) 0)) w fun t5 w =>
 N (xv (loadAt 3 t5)) w fun t6 w =>
 N (xcall (.func (.func 60) #[] #[]) [t6, (.int .i64 1), (.int .i64 11)]) w fun t7 w =>
 N (xv (Op.unary .not t7)) w fun t8 w =>
 k (Env.p e 8 t8) w) (by kernel_rfl) (by intros; kernel_rfl)
def c34_1_s:=@seq34 c34_1 c34_2 c34_48 (by kernel_rfl)
def c34_s:=@reg34 c34 c34_1 0 (rO (cL c34)) (fun N M G k e w =>
 N (xv (Instr.box 40 (e 0))) w fun t1 w =>
 M (.int .i64 0) fun t2 =>
 k (Env.p (Env.p e 1 t1) 2 t2) w) (by kernel_rfl) (by intros; kernel_rfl)
theorem call34 {a0 : Value} {w : World} {R : Value → World → Prop} (h : W3 Tryz.prog 158 V34 c34 (retQ Tryz.prog [.tmp 2] R) (argE [a0]) w) : CallsN Tryz.prog 34 [a0] w R :=
 callsN_of_W3 (c := c34) (rs := [.tmp 2]) V34 Tryz.ntmps34 (by rw [Tryz.results34]) mixed Tryz.func34 (by kernel_rfl) (by kernel_rfl) (by kernel_rfl) (by kernel_rfl) (by simp) h
def w3t_34:=w3t Tryz.prog 158 V34
def hk34 := aI @c34_7_s <| aI @c34_10_s <| aI @c34_9_s <| aI @c34_8_s <| aI @c34_6_s <| aI @c34_15_s <| aI @c34_18_s <| aI @c34_23_s <| aI @c34_22_s <| aI @c34_21_s <| aI @c34_26_s <| aI @c34_29_s <| aI @c34_32_s <| aI @c34_35_s <| aI @c34_34_s <| aI @c34_38_s <| aI @c34_37_s <| aI @c34_36_s <| aI @c34_33_s <| aI @c34_31_s <| aI @c34_30_s <| aI @c34_28_s <| aI @c34_27_s <| aI @c34_25_s <| aI @c34_24_s <| aI @c34_20_s <| aI @c34_41_s <| aI @c34_40_s <| aI @c34_39_s <| aI @c34_19_s <| aI @c34_17_s <| aI @c34_44_s <| aI @c34_43_s <| aI @c34_42_s <| aI @c34_16_s <| aI @c34_14_s <| aI @c34_13_s <| aI @c34_12_s <| aI @c34_11_s <| aI @c34_5_s <| aI @c34_47_s <| aI @c34_46_s <| aI @c34_45_s <| aI @c34_4_s <| aI @c34_3_s <| aI @c34_2_s <| aI @c34_50_s <| aI @c34_49_s <| aI @c34_48_s <| aI @c34_1_s <| aI @c34_s <| @w3t_34
-- K34: ↓hk34
/-! ### vouch/vouchref13.in -/
def V60 : Nat → Bool := fun i => [0, 1, 2, 6].elem i
def reg60:=@s_reg Tryz.prog 15 V60
noncomputable def c60:Code:=(Tryz.f60.body.getD .skip)
noncomputable def c60_1:=cR c60
def c60_1_s:=@reg60 c60_1 .ret 1 (rO (cL c60_1)) (fun N M G k e w =>
 M (e 0) fun t7 =>
 M (e 1) fun t8 =>
 N (xv (xbin .geq 3 (.tmp 7) (.tmp 8) t7 t8)) w fun t9 w =>
 M t9 fun t10 =>
 G (isB t10 true) (fun K => M (e 0) fun v => K v w) (fun t11 w =>
 G (isB t10 true) (fun K => M (e 2) fun v => K v w) (fun t12 w =>
 G (isB t10 true) (fun K => N (xv (xbin .leq 3 (.tmp 11) (.tmp 12) t11 t12)) w K) (fun t13 w =>
 N (xpick t10 t13 (.bool false)) w fun t14 w =>
 M t14 fun t6 =>
 k (Env.p e 6 t6) w) w) w) w) (by kernel_rfl) (by intros; kernel_rfl)
def c60_s:=@reg60 c60 c60_1 0 (rO (cL c60)) (fun N M G k e w =>
 M (.bool false) fun t6 =>
 k (Env.p e 6 t6) w) (by kernel_rfl) (by intros; kernel_rfl)
theorem call60 {a0 a1 a2 : Value} {w : World} {R : Value → World → Prop} (h : W3 Tryz.prog 15 V60 c60 (retQ Tryz.prog [.tmp 6] R) (argE [a0, a1, a2]) w) : CallsN Tryz.prog 60 [a0, a1, a2] w R :=
 callsN_of_W3 (c := c60) (rs := [.tmp 6]) V60 Tryz.ntmps60 (by rw [Tryz.results60]) mixed Tryz.func60 (by kernel_rfl) (by kernel_rfl) (by kernel_rfl) (by kernel_rfl) (by simp) h
def w3t_60:=w3t Tryz.prog 15 V60
def hk60 := aI @c60_1_s <| aI @c60_s <| @w3t_60
-- K60: ↓hk60
/-! ### vouch/vouchref13.only -/
def V61 : Nat → Bool := fun i => [0, 1, 2, 3, 8, 9, 20, 34, 51, 63, 70, 84, 97, 104, 121, 132, 140, 148].elem i
def block61:=@s_block Tryz.prog 160 V61
def cond61:=@s_cond Tryz.prog 160 V61
def drw61:=@s_drw Tryz.prog 160 V61
def drwE61:=@s_drwE Tryz.prog 160 V61
def reg61:=@s_reg Tryz.prog 160 V61
def seq61:=@s_seq Tryz.prog 160 V61
noncomputable def c61:Code:=(Tryz.f61.body.getD .skip)
noncomputable def c61_1:=cR c61
noncomputable def c61_2:=cR c61_1
noncomputable def c61_3:=cR c61_2
noncomputable def c61_4:=cL c61_2
noncomputable def c61_5:=cR c61_4
noncomputable def c61_6:=cL c61_5
noncomputable def c61_7:=cR c61_6
noncomputable def c61_8:=cL c61_7
noncomputable def b61_4:List Row:=[(0, 0, 2, 12, true), (1, 1, 2048, 13, true), (0, 0, 2, 14, true), (4, 4, 8192, 15, true), (0, 0, 2, 16, true), (16, 16, 32768, 17, true), (3, 3, 8, 18, true), (67, 67, 135168, 0, false), (207, 207, 8, 19, true), (463, 463, 278528, 0, false), (1023, 1023, 8, 20, true), (2047, 2047, 589824, 0, false)]
noncomputable def c61_9:=cR c61_7
noncomputable def c61_10:=cR c61_9
noncomputable def c61_11:=cL c61_10
noncomputable def b61_6:List Row:=[(0, 0, 2, 23, true), (1, 1, 4194304, 24, true), (0, 0, 2, 25, true), (4, 4, 16777216, 26, true), (0, 0, 2, 27, true), (16, 16, 67108864, 28, true), (0, 0, 2, 29, true), (64, 64, 268435456, 30, true), (3, 3, 8, 31, true), (259, 259, 1082130432, 0, false), (783, 783, 8, 32, true), (1807, 1807, 2181038080, 0, false), (3903, 3903, 8, 33, true), (7999, 7999, 4429185024, 0, false), (16383, 16383, 8, 34, true), (32767, 32767, 9126805504, 0, false)]
noncomputable def c61_12:=cR c61_10
noncomputable def c61_13:=cR c61_12
noncomputable def c61_14:=cL c61_13
noncomputable def b61_8:List Row:=[(0, 0, 2, 37, true), (1, 1, 68719476736, 38, true), (0, 0, 2, 39, true), (4, 4, 274877906944, 40, true), (0, 0, 2, 41, true), (16, 16, 1099511627776, 42, true), (0, 0, 2, 43, true), (64, 64, 4398046511104, 44, true), (0, 0, 2, 45, true), (256, 256, 17592186044416, 46, true), (3, 3, 8, 47, true), (1027, 1027, 70506183131136, 0, false), (3087, 3087, 8, 48, true), (7183, 7183, 141287244169216, 0, false), (15423, 15423, 8, 49, true), (31807, 31807, 283673999966208, 0, false), (64767, 64767, 8, 50, true), (130303, 130303, 571746046443520, 0, false), (262143, 262143, 8, 51, true), (524287, 524287, 1161084278931456, 0, false)]
noncomputable def c61_15:=cR c61_13
noncomputable def c61_16:=cR c61_15
noncomputable def c61_17:=cL c61_16
noncomputable def b61_10:List Row:=[(0, 0, 2, 54, true), (1, 1, 9007199254740992, 55, true), (0, 0, 2, 56, true), (4, 4, 36028797018963968, 57, true), (0, 0, 2, 58, true), (16, 16, 144115188075855872, 59, true), (3, 3, 8, 60, true), (67, 67, 594475150812905472, 0, false), (207, 207, 8, 61, true), (463, 463, 1224979098644774912, 0, false), (1023, 1023, 8, 62, true), (2047, 2047, 2594073385365405696, 0, false)]
noncomputable def c61_18:=cR c61_17
noncomputable def c61_19:=cR c61_18
noncomputable def c61_20:=cL c61_19
noncomputable def b61_12:List Row:=[(0, 0, 2, 65, true), (1, 1, 18446744073709551616, 66, true), (0, 0, 2, 67, true), (4, 4, 73786976294838206464, 68, true), (3, 3, 8, 69, true), (19, 19, 332041393326771929088, 0, false), (63, 63, 8, 70, true), (127, 127, 737869762948382064640, 0, false)]
noncomputable def c61_21:=cR c61_16
noncomputable def c61_22:=cR c61_21
noncomputable def c61_23:=cL c61_22
noncomputable def b61_14:List Row:=[(0, 0, 2, 73, true), (1, 1, 4722366482869645213696, 74, true), (0, 0, 2, 75, true), (4, 4, 18889465931478580854784, 76, true), (0, 0, 2, 77, true), (16, 16, 75557863725914323419136, 78, true), (0, 0, 2, 79, true), (64, 64, 302231454903657293676544, 80, true), (3, 3, 8, 81, true), (259, 259, 1218370552580368465133568, 0, false), (783, 783, 8, 82, true), (1807, 1807, 2455630571092215511121920, 0, false), (3903, 3903, 8, 83, true), (7999, 7999, 4986819005910345345662976, 0, false), (16383, 16383, 8, 84, true), (32767, 32767, 10275869466724347985002496, 0, false)]
noncomputable def c61_24:=cR c61_22
noncomputable def c61_25:=cR c61_24
noncomputable def c61_26:=cL c61_25
noncomputable def b61_16:List Row:=[(0, 0, 2, 87, true), (1, 1, 77371252455336267181195264, 88, true), (0, 0, 2, 89, true), (4, 4, 309485009821345068724781056, 90, true), (0, 0, 2, 91, true), (16, 16, 1237940039285380274899124224, 92, true), (3, 3, 8, 93, true), (67, 67, 5106502662052193633958887424, 0, false), (207, 207, 8, 94, true), (463, 463, 10522490333925732336642555904, 0, false), (1023, 1023, 8, 95, true), (2047, 2047, 22282920707136844948184236032, 0, false)]
noncomputable def c61_27:=cR c61_26
noncomputable def c61_28:=cR c61_27
noncomputable def c61_29:=cL c61_28
noncomputable def b61_18:List Row:=[(0, 0, 2, 99, true), (1, 1, 316912650057057350374175801344, 100, true), (0, 0, 2, 101, true), (4, 4, 1267650600228229401496703205376, 102, true), (3, 3, 8, 103, true), (19, 19, 5704427701027032306735164424192, 0, false), (63, 63, 8, 104, true), (127, 127, 12676506002282294014967032053760, 0, false)]
noncomputable def c61_30:=cR c61_25
noncomputable def c61_31:=cR c61_30
noncomputable def c61_32:=cL c61_31
noncomputable def b61_20:List Row:=[(0, 0, 2, 107, true), (1, 1, 81129638414606681695789005144064, 108, true), (0, 0, 2, 109, true), (4, 4, 324518553658426726783156020576256, 110, true), (0, 0, 2, 111, true), (16, 16, 1298074214633706907132624082305024, 112, true), (0, 0, 2, 113, true), (64, 64, 5192296858534827628530496329220096, 114, true), (0, 0, 2, 115, true), (256, 256, 20769187434139310514121985316880384, 116, true), (3, 3, 8, 117, true), (1027, 1027, 83239009013386455419879519277809664, 0, false), (3087, 3087, 8, 118, true), (7183, 7183, 166802536580431337566542194576195584, 0, false), (15423, 15423, 8, 119, true), (31807, 31807, 334903147375496382040217013234696192, 0, false), (64767, 64767, 8, 120, true), (130303, 130303, 674998591609527591708964522798612480, 0, false), (262143, 262143, 8, 121, true), (524287, 524287, 1370766370653194493932051030914105344, 0, false)]
noncomputable def c61_33:=cR c61_31
noncomputable def c61_34:=cR c61_33
noncomputable def c61_35:=cL c61_34
noncomputable def b61_22:List Row:=[(0, 0, 2, 124, true), (1, 1, 10633823966279326983230456482242756608, 125, true), (0, 0, 2, 126, true), (4, 4, 42535295865117307932921825928971026432, 127, true), (0, 0, 2, 128, true), (16, 16, 170141183460469231731687303715884105728, 129, true), (3, 3, 8, 130, true), (67, 67, 701832381774435580893210127828021936128, 0, false), (207, 207, 8, 131, true), (463, 463, 1446200059413988469719342081585014898688, 0, false), (1023, 1023, 8, 132, true), (2047, 2047, 3062541302288446171170371466885913903104, 0, false)]
noncomputable def c61_36:=cR c61_34
noncomputable def c61_37:=cR c61_36
noncomputable def c61_38:=cL c61_37
noncomputable def b61_24:List Row:=[(0, 0, 2, 135, true), (1, 1, 21778071482940061661655974875633165533184, 136, true), (0, 0, 2, 137, true), (4, 4, 87112285931760246646623899502532662132736, 138, true), (3, 3, 8, 139, true), (19, 19, 392005286692921109909807547761396979597312, 0, false), (63, 63, 8, 140, true), (127, 127, 871122859317602466466238995025326621327360, 0, false)]
noncomputable def c61_39:=cR c61_37
noncomputable def c61_40:=cR c61_39
noncomputable def c61_41:=cL c61_40
noncomputable def b61_26:List Row:=[(0, 0, 2, 143, true), (1, 1, 5575186299632655785383929568162090376495104, 144, true), (0, 0, 2, 145, true), (4, 4, 22300745198530623141535718272648361505980416, 146, true), (3, 3, 8, 147, true), (19, 19, 100353353393387804136910732226917626776911872, 0, false), (63, 63, 8, 148, true), (127, 127, 223007451985306231415357182726483615059804160, 0, false)]
noncomputable def c61_42:=cR c61_40
noncomputable def c61_43:=cR c61_42
noncomputable def c61_44:=cL c61_43
noncomputable def b61_28:List Row:=[(0, 0, 2, 151, true), (1, 1, 1427247692705959881058285969449495136382746624, 152, true), (0, 0, 2, 153, true), (4, 4, 5708990770823839524233143877797980545530986496, 154, true), (0, 0, 2, 155, true), (16, 16, 22835963083295358096932575511191922182123945984, 156, true), (3, 3, 8, 157, true), (67, 67, 94198347718593352149846873983666679001261277184, 0, false), (207, 207, 8, 158, true), (463, 463, 194105686208010543823926891845131338548053540864, 0, false), (1023, 1023, 8, 159, true), (2047, 2047, 411047335499316445744786359201454599278231027712, 0, false)]
def c61_3_s:=@reg61 c61_3 .ret 29 (rO (cL c61_3)) (fun N M G k e w =>
 N (xv (loadAt 40 (e 3))) w fun t159 w =>
 N (xu (storeAt 40 (e 2) t159)) w fun _ w =>
 k e w) (by kernel_rfl) (by intros; kernel_rfl)
def c61_8_s:=@drwE61 c61_8 4 (rO c61_8) b61_4 12 (fun N T M G H Y k e w =>
 T (FrX none w) (xv (fieldAt 40 (e 1) 3)) fun t11 =>
 T (FrX (some []) w) (xv (loadAt 3 t11)) fun t12 =>
 T (FrX none w) (xv (fieldAt 40 (e 1) 5)) fun t13 =>
 T (FrX (some []) w) (xv (loadAt 3 t13)) fun t14 =>
 T (FrX none w) (xv (fieldAt 40 (e 1) 12)) fun t15 =>
 T (FrX (some []) w) (xv (loadAt 37 t15)) fun t16 =>
 T (FrX none w) (xv (fieldAt 40 (e 3) 3)) fun t17 =>
 N (xu (storeAt 3 t17 t12)) w fun _ w7 =>
 Y true (xv (loadAt 37 t15)) t16 w w7 ∧ (Y true (xv (loadAt 3 t13)) t14 w w7 ∧ (T (FrX none w7) (xv (fieldAt 40 (e 3) 5)) fun t18 =>
 N (xu (storeAt 3 t18 t14)) w7 fun _ w9 =>
 Y true (xv (loadAt 37 t15)) t16 w w9 ∧ (T (FrX none w9) (xv (fieldAt 40 (e 3) 12)) fun t19 =>
 N (xu (storeAt 37 t19 t16)) w9 fun _ w11 =>
 k e w11)))) (by kernel_rfl) (by kernel_rfl) (by kernel_rfl) (by intros; kernel_rfl)
def c61_11_s:=@drwE61 c61_11 6 (rO c61_11) b61_6 16 (fun N T M G H Y k e w =>
 T (FrX none w) (xv (fieldAt 40 (e 1) 3)) fun t22 =>
 T (FrX (some []) w) (xv (loadAt 3 t22)) fun t23 =>
 T (FrX none w) (xv (fieldAt 40 (e 1) 5)) fun t24 =>
 T (FrX (some []) w) (xv (loadAt 3 t24)) fun t25 =>
 T (FrX none w) (xv (fieldAt 40 (e 1) 10)) fun t26 =>
 T (FrX (some []) w) (xv (loadAt 36 t26)) fun t27 =>
 T (FrX none w) (xv (fieldAt 40 (e 1) 11)) fun t28 =>
 T (FrX (some []) w) (xv (loadAt 2 t28)) fun t29 =>
 T (FrX none w) (xv (fieldAt 40 (e 3) 3)) fun t30 =>
 N (xu (storeAt 3 t30 t23)) w fun _ w9 =>
 Y true (xv (loadAt 2 t28)) t29 w w9 ∧ (Y true (xv (loadAt 36 t26)) t27 w w9 ∧ (Y true (xv (loadAt 3 t24)) t25 w w9 ∧ (T (FrX none w9) (xv (fieldAt 40 (e 3) 5)) fun t31 =>
 N (xu (storeAt 3 t31 t25)) w9 fun _ w11 =>
 Y true (xv (loadAt 2 t28)) t29 w w11 ∧ (Y true (xv (loadAt 36 t26)) t27 w w11 ∧ (T (FrX none w11) (xv (fieldAt 40 (e 3) 10)) fun t32 =>
 N (xu (storeAt 36 t32 t27)) w11 fun _ w13 =>
 Y true (xv (loadAt 2 t28)) t29 w w13 ∧ (T (FrX none w13) (xv (fieldAt 40 (e 3) 11)) fun t33 =>
 N (xu (storeAt 2 t33 t29)) w13 fun _ w15 =>
 k e w15))))))) (by kernel_rfl) (by kernel_rfl) (by kernel_rfl) (by intros; kernel_rfl)
def c61_14_s:=@drwE61 c61_14 8 (rO c61_14) b61_8 20 (fun N T M G H Y k e w =>
 T (FrX none w) (xv (fieldAt 40 (e 1) 1)) fun t36 =>
 T (FrX (some []) w) (xv (loadAt 3 t36)) fun t37 =>
 T (FrX none w) (xv (fieldAt 40 (e 1) 4)) fun t38 =>
 T (FrX (some []) w) (xv (loadAt 3 t38)) fun t39 =>
 T (FrX none w) (xv (fieldAt 40 (e 1) 5)) fun t40 =>
 T (FrX (some []) w) (xv (loadAt 3 t40)) fun t41 =>
 T (FrX none w) (xv (fieldAt 40 (e 1) 6)) fun t42 =>
 T (FrX (some []) w) (xv (loadAt 9 t42)) fun t43 =>
 T (FrX none w) (xv (fieldAt 40 (e 1) 7)) fun t44 =>
 T (FrX (some []) w) (xv (loadAt 33 t44)) fun t45 =>
 T (FrX none w) (xv (fieldAt 40 (e 3) 1)) fun t46 =>
 N (xu (storeAt 3 t46 t37)) w fun _ w11 =>
 Y true (xv (loadAt 33 t44)) t45 w w11 ∧ (Y true (xv (loadAt 9 t42)) t43 w w11 ∧ (Y true (xv (loadAt 3 t40)) t41 w w11 ∧ (Y true (xv (loadAt 3 t38)) t39 w w11 ∧ (T (FrX none w11) (xv (fieldAt 40 (e 3) 4)) fun t47 =>
 N (xu (storeAt 3 t47 t39)) w11 fun _ w13 =>
 Y true (xv (loadAt 33 t44)) t45 w w13 ∧ (Y true (xv (loadAt 9 t42)) t43 w w13 ∧ (Y true (xv (loadAt 3 t40)) t41 w w13 ∧ (T (FrX none w13) (xv (fieldAt 40 (e 3) 5)) fun t48 =>
 N (xu (storeAt 3 t48 t41)) w13 fun _ w15 =>
 Y true (xv (loadAt 33 t44)) t45 w w15 ∧ (Y true (xv (loadAt 9 t42)) t43 w w15 ∧ (T (FrX none w15) (xv (fieldAt 40 (e 3) 6)) fun t49 =>
 N (xu (storeAt 9 t49 t43)) w15 fun _ w17 =>
 Y true (xv (loadAt 33 t44)) t45 w w17 ∧ (T (FrX none w17) (xv (fieldAt 40 (e 3) 7)) fun t50 =>
 N (xu (storeAt 33 t50 t45)) w17 fun _ w19 =>
 k e w19))))))))))) (by kernel_rfl) (by kernel_rfl) (by kernel_rfl) (by intros; kernel_rfl)
def c61_20_s:=@drwE61 c61_20 12 (rO c61_20) b61_12 8 (fun N T M G H Y k e w =>
 T (FrX none w) (xv (fieldAt 40 (e 1) 8)) fun t64 =>
 T (FrX (some []) w) (xv (loadAt 35 t64)) fun t65 =>
 T (FrX none w) (xv (fieldAt 40 (e 1) 7)) fun t66 =>
 T (FrX (some []) w) (xv (loadAt 33 t66)) fun t67 =>
 T (FrX none w) (xv (fieldAt 40 (e 3) 8)) fun t68 =>
 N (xu (storeAt 35 t68 t65)) w fun _ w5 =>
 Y true (xv (loadAt 33 t66)) t67 w w5 ∧ (T (FrX none w5) (xv (fieldAt 40 (e 3) 7)) fun t69 =>
 N (xu (storeAt 33 t69 t67)) w5 fun _ w7 =>
 k e w7)) (by kernel_rfl) (by kernel_rfl) (by kernel_rfl) (by intros; kernel_rfl)
def c61_19_s:=@cond61 c61_19 .skip 63 c61_20 (by kernel_rfl) (by kernel_rfl)
def c61_18_s:=@reg61 c61_18 c61_19 11 (rO (cL c61_18)) (fun N M G k e w =>
 N (xv (fieldAt 40 (e 1) 9)) w fun t62 w =>
 N (xv (loadAt 4 t62)) w fun t63 w =>
 k (Env.p e 63 t63) w) (by kernel_rfl) (by intros; kernel_rfl)
def c61_17_s:=@drw61 c61_17 c61_18 10 (rO (cL c61_17)) b61_10 12 (fun N T M G H Y k e w =>
 T (FrX none w) (xv (fieldAt 40 (e 1) 4)) fun t53 =>
 T (FrX (some []) w) (xv (loadAt 3 t53)) fun t54 =>
 T (FrX none w) (xv (fieldAt 40 (e 1) 5)) fun t55 =>
 T (FrX (some []) w) (xv (loadAt 3 t55)) fun t56 =>
 T (FrX none w) (xv (fieldAt 40 (e 1) 9)) fun t57 =>
 T (FrX (some []) w) (xv (loadAt 4 t57)) fun t58 =>
 T (FrX none w) (xv (fieldAt 40 (e 3) 4)) fun t59 =>
 N (xu (storeAt 3 t59 t54)) w fun _ w7 =>
 Y true (xv (loadAt 4 t57)) t58 w w7 ∧ (Y true (xv (loadAt 3 t55)) t56 w w7 ∧ (T (FrX none w7) (xv (fieldAt 40 (e 3) 5)) fun t60 =>
 N (xu (storeAt 3 t60 t56)) w7 fun _ w9 =>
 Y true (xv (loadAt 4 t57)) t58 w w9 ∧ (T (FrX none w9) (xv (fieldAt 40 (e 3) 9)) fun t61 =>
 N (xu (storeAt 4 t61 t58)) w9 fun _ w11 =>
 k e w11)))) (by kernel_rfl) (by kernel_rfl) (by kernel_rfl) (by intros; kernel_rfl)
def c61_23_s:=@drwE61 c61_23 14 (rO c61_23) b61_14 16 (fun N T M G H Y k e w =>
 T (FrX none w) (xv (fieldAt 40 (e 1) 4)) fun t72 =>
 T (FrX (some []) w) (xv (loadAt 3 t72)) fun t73 =>
 T (FrX none w) (xv (fieldAt 40 (e 1) 5)) fun t74 =>
 T (FrX (some []) w) (xv (loadAt 3 t74)) fun t75 =>
 T (FrX none w) (xv (fieldAt 40 (e 1) 6)) fun t76 =>
 T (FrX (some []) w) (xv (loadAt 9 t76)) fun t77 =>
 T (FrX none w) (xv (fieldAt 40 (e 1) 7)) fun t78 =>
 T (FrX (some []) w) (xv (loadAt 33 t78)) fun t79 =>
 T (FrX none w) (xv (fieldAt 40 (e 3) 4)) fun t80 =>
 N (xu (storeAt 3 t80 t73)) w fun _ w9 =>
 Y true (xv (loadAt 33 t78)) t79 w w9 ∧ (Y true (xv (loadAt 9 t76)) t77 w w9 ∧ (Y true (xv (loadAt 3 t74)) t75 w w9 ∧ (T (FrX none w9) (xv (fieldAt 40 (e 3) 5)) fun t81 =>
 N (xu (storeAt 3 t81 t75)) w9 fun _ w11 =>
 Y true (xv (loadAt 33 t78)) t79 w w11 ∧ (Y true (xv (loadAt 9 t76)) t77 w w11 ∧ (T (FrX none w11) (xv (fieldAt 40 (e 3) 6)) fun t82 =>
 N (xu (storeAt 9 t82 t77)) w11 fun _ w13 =>
 Y true (xv (loadAt 33 t78)) t79 w w13 ∧ (T (FrX none w13) (xv (fieldAt 40 (e 3) 7)) fun t83 =>
 N (xu (storeAt 33 t83 t79)) w13 fun _ w15 =>
 k e w15))))))) (by kernel_rfl) (by kernel_rfl) (by kernel_rfl) (by intros; kernel_rfl)
def c61_29_s:=@drwE61 c61_29 18 (rO c61_29) b61_18 8 (fun N T M G H Y k e w =>
 T (FrX none w) (xv (fieldAt 40 (e 1) 8)) fun t98 =>
 T (FrX (some []) w) (xv (loadAt 35 t98)) fun t99 =>
 T (FrX none w) (xv (fieldAt 40 (e 1) 7)) fun t100 =>
 T (FrX (some []) w) (xv (loadAt 33 t100)) fun t101 =>
 T (FrX none w) (xv (fieldAt 40 (e 3) 8)) fun t102 =>
 N (xu (storeAt 35 t102 t99)) w fun _ w5 =>
 Y true (xv (loadAt 33 t100)) t101 w w5 ∧ (T (FrX none w5) (xv (fieldAt 40 (e 3) 7)) fun t103 =>
 N (xu (storeAt 33 t103 t101)) w5 fun _ w7 =>
 k e w7)) (by kernel_rfl) (by kernel_rfl) (by kernel_rfl) (by intros; kernel_rfl)
def c61_28_s:=@cond61 c61_28 .skip 97 c61_29 (by kernel_rfl) (by kernel_rfl)
def c61_27_s:=@reg61 c61_27 c61_28 17 (rO (cL c61_27)) (fun N M G k e w =>
 N (xv (fieldAt 40 (e 1) 10)) w fun t95 w =>
 N (xv (loadAt 36 t95)) w fun t96 w =>
 N (xv (xbin .eql 36 (.tmp 96) (.const (.int .i64 0)) t96 (.int .i64 0))) w fun t97 w =>
 k (Env.p e 97 t97) w) (by kernel_rfl) (by intros; kernel_rfl)
def c61_26_s:=@drw61 c61_26 c61_27 16 (rO (cL c61_26)) b61_16 12 (fun N T M G H Y k e w =>
 T (FrX none w) (xv (fieldAt 40 (e 1) 4)) fun t86 =>
 T (FrX (some []) w) (xv (loadAt 3 t86)) fun t87 =>
 T (FrX none w) (xv (fieldAt 40 (e 1) 5)) fun t88 =>
 T (FrX (some []) w) (xv (loadAt 3 t88)) fun t89 =>
 T (FrX none w) (xv (fieldAt 40 (e 1) 10)) fun t90 =>
 T (FrX (some []) w) (xv (loadAt 36 t90)) fun t91 =>
 T (FrX none w) (xv (fieldAt 40 (e 3) 4)) fun t92 =>
 N (xu (storeAt 3 t92 t87)) w fun _ w7 =>
 Y true (xv (loadAt 36 t90)) t91 w w7 ∧ (Y true (xv (loadAt 3 t88)) t89 w w7 ∧ (T (FrX none w7) (xv (fieldAt 40 (e 3) 5)) fun t93 =>
 N (xu (storeAt 3 t93 t89)) w7 fun _ w9 =>
 Y true (xv (loadAt 36 t90)) t91 w w9 ∧ (T (FrX none w9) (xv (fieldAt 40 (e 3) 10)) fun t94 =>
 N (xu (storeAt 36 t94 t91)) w9 fun _ w11 =>
 k e w11)))) (by kernel_rfl) (by kernel_rfl) (by kernel_rfl) (by intros; kernel_rfl)
def c61_32_s:=@drwE61 c61_32 20 (rO c61_32) b61_20 20 (fun N T M G H Y k e w =>
 T (FrX none w) (xv (fieldAt 40 (e 1) 1)) fun t106 =>
 T (FrX (some []) w) (xv (loadAt 3 t106)) fun t107 =>
 T (FrX none w) (xv (fieldAt 40 (e 1) 6)) fun t108 =>
 T (FrX (some []) w) (xv (loadAt 9 t108)) fun t109 =>
 T (FrX none w) (xv (fieldAt 40 (e 1) 8)) fun t110 =>
 T (FrX (some []) w) (xv (loadAt 35 t110)) fun t111 =>
 T (FrX none w) (xv (fieldAt 40 (e 1) 7)) fun t112 =>
 T (FrX (some []) w) (xv (loadAt 33 t112)) fun t113 =>
 T (FrX none w) (xv (fieldAt 40 (e 1) 11)) fun t114 =>
 T (FrX (some []) w) (xv (loadAt 2 t114)) fun t115 =>
 T (FrX none w) (xv (fieldAt 40 (e 3) 1)) fun t116 =>
 N (xu (storeAt 3 t116 t107)) w fun _ w11 =>
 Y true (xv (loadAt 2 t114)) t115 w w11 ∧ (Y true (xv (loadAt 33 t112)) t113 w w11 ∧ (Y true (xv (loadAt 35 t110)) t111 w w11 ∧ (Y true (xv (loadAt 9 t108)) t109 w w11 ∧ (T (FrX none w11) (xv (fieldAt 40 (e 3) 6)) fun t117 =>
 N (xu (storeAt 9 t117 t109)) w11 fun _ w13 =>
 Y true (xv (loadAt 2 t114)) t115 w w13 ∧ (Y true (xv (loadAt 33 t112)) t113 w w13 ∧ (Y true (xv (loadAt 35 t110)) t111 w w13 ∧ (T (FrX none w13) (xv (fieldAt 40 (e 3) 8)) fun t118 =>
 N (xu (storeAt 35 t118 t111)) w13 fun _ w15 =>
 Y true (xv (loadAt 2 t114)) t115 w w15 ∧ (Y true (xv (loadAt 33 t112)) t113 w w15 ∧ (T (FrX none w15) (xv (fieldAt 40 (e 3) 7)) fun t119 =>
 N (xu (storeAt 33 t119 t113)) w15 fun _ w17 =>
 Y true (xv (loadAt 2 t114)) t115 w w17 ∧ (T (FrX none w17) (xv (fieldAt 40 (e 3) 11)) fun t120 =>
 N (xu (storeAt 2 t120 t115)) w17 fun _ w19 =>
 k e w19))))))))))) (by kernel_rfl) (by kernel_rfl) (by kernel_rfl) (by intros; kernel_rfl)
def c61_35_s:=@drwE61 c61_35 22 (rO c61_35) b61_22 12 (fun N T M G H Y k e w =>
 T (FrX none w) (xv (fieldAt 40 (e 1) 1)) fun t123 =>
 T (FrX (some []) w) (xv (loadAt 3 t123)) fun t124 =>
 T (FrX none w) (xv (fieldAt 40 (e 1) 11)) fun t125 =>
 T (FrX (some []) w) (xv (loadAt 2 t125)) fun t126 =>
 T (FrX none w) (xv (fieldAt 40 (e 1) 13)) fun t127 =>
 T (FrX (some []) w) (xv (loadAt 38 t127)) fun t128 =>
 T (FrX none w) (xv (fieldAt 40 (e 3) 1)) fun t129 =>
 N (xu (storeAt 3 t129 t124)) w fun _ w7 =>
 Y true (xv (loadAt 38 t127)) t128 w w7 ∧ (Y true (xv (loadAt 2 t125)) t126 w w7 ∧ (T (FrX none w7) (xv (fieldAt 40 (e 3) 11)) fun t130 =>
 N (xu (storeAt 2 t130 t126)) w7 fun _ w9 =>
 Y true (xv (loadAt 38 t127)) t128 w w9 ∧ (T (FrX none w9) (xv (fieldAt 40 (e 3) 13)) fun t131 =>
 N (xu (storeAt 38 t131 t128)) w9 fun _ w11 =>
 k e w11)))) (by kernel_rfl) (by kernel_rfl) (by kernel_rfl) (by intros; kernel_rfl)
def c61_38_s:=@drwE61 c61_38 24 (rO c61_38) b61_24 8 (fun N T M G H Y k e w =>
 T (FrX none w) (xv (fieldAt 40 (e 1) 1)) fun t134 =>
 T (FrX (some []) w) (xv (loadAt 3 t134)) fun t135 =>
 T (FrX none w) (xv (fieldAt 40 (e 1) 11)) fun t136 =>
 T (FrX (some []) w) (xv (loadAt 2 t136)) fun t137 =>
 T (FrX none w) (xv (fieldAt 40 (e 3) 1)) fun t138 =>
 N (xu (storeAt 3 t138 t135)) w fun _ w5 =>
 Y true (xv (loadAt 2 t136)) t137 w w5 ∧ (T (FrX none w5) (xv (fieldAt 40 (e 3) 11)) fun t139 =>
 N (xu (storeAt 2 t139 t137)) w5 fun _ w7 =>
 k e w7)) (by kernel_rfl) (by kernel_rfl) (by kernel_rfl) (by intros; kernel_rfl)
def c61_41_s:=@drwE61 c61_41 26 (rO c61_41) b61_26 8 (fun N T M G H Y k e w =>
 T (FrX none w) (xv (fieldAt 40 (e 1) 1)) fun t142 =>
 T (FrX (some []) w) (xv (loadAt 3 t142)) fun t143 =>
 T (FrX none w) (xv (fieldAt 40 (e 1) 2)) fun t144 =>
 T (FrX (some []) w) (xv (loadAt 3 t144)) fun t145 =>
 T (FrX none w) (xv (fieldAt 40 (e 3) 1)) fun t146 =>
 N (xu (storeAt 3 t146 t143)) w fun _ w5 =>
 Y true (xv (loadAt 3 t144)) t145 w w5 ∧ (T (FrX none w5) (xv (fieldAt 40 (e 3) 2)) fun t147 =>
 N (xu (storeAt 3 t147 t145)) w5 fun _ w7 =>
 k e w7)) (by kernel_rfl) (by kernel_rfl) (by kernel_rfl) (by intros; kernel_rfl)
def c61_44_s:=@drwE61 c61_44 28 (rO c61_44) b61_28 12 (fun N T M G H Y k e w =>
 T (FrX none w) (xv (fieldAt 40 (e 1) 1)) fun t150 =>
 T (FrX (some []) w) (xv (loadAt 3 t150)) fun t151 =>
 T (FrX none w) (xv (fieldAt 40 (e 1) 2)) fun t152 =>
 T (FrX (some []) w) (xv (loadAt 3 t152)) fun t153 =>
 T (FrX none w) (xv (fieldAt 40 (e 1) 11)) fun t154 =>
 T (FrX (some []) w) (xv (loadAt 2 t154)) fun t155 =>
 T (FrX none w) (xv (fieldAt 40 (e 3) 1)) fun t156 =>
 N (xu (storeAt 3 t156 t151)) w fun _ w7 =>
 Y true (xv (loadAt 2 t154)) t155 w w7 ∧ (Y true (xv (loadAt 3 t152)) t153 w w7 ∧ (T (FrX none w7) (xv (fieldAt 40 (e 3) 2)) fun t157 =>
 N (xu (storeAt 3 t157 t153)) w7 fun _ w9 =>
 Y true (xv (loadAt 2 t154)) t155 w w9 ∧ (T (FrX none w9) (xv (fieldAt 40 (e 3) 11)) fun t158 =>
 N (xu (storeAt 2 t158 t155)) w9 fun _ w11 =>
 k e w11)))) (by kernel_rfl) (by kernel_rfl) (by kernel_rfl) (by intros; kernel_rfl)
def c61_43_s:=@cond61 c61_43 .skip 148 c61_44 (by kernel_rfl) (by kernel_rfl)
def c61_42_s:=@reg61 c61_42 c61_43 27 (rO (cL c61_42)) (fun N M G k e w =>
 N (xv (xbin .eql 3 (.tmp 8) (.const (.int .i64 11)) (e 8) (.int .i64 11))) w fun t149 w =>
 M t149 fun t148 =>
 k (Env.p e 148 t148) w) (by kernel_rfl) (by intros; kernel_rfl)
def c61_40_s:=@cond61 c61_40 c61_42 140 c61_41 (by kernel_rfl) (by kernel_rfl)
def c61_39_s:=@reg61 c61_39 c61_40 25 (rO (cL c61_39)) (fun N M G k e w =>
 N (xv (xbin .eql 3 (.tmp 8) (.const (.int .i64 10)) (e 8) (.int .i64 10))) w fun t141 w =>
 M t141 fun t140 =>
 k (Env.p e 140 t140) w) (by kernel_rfl) (by intros; kernel_rfl)
def c61_37_s:=@cond61 c61_37 c61_39 132 c61_38 (by kernel_rfl) (by kernel_rfl)
def c61_36_s:=@reg61 c61_36 c61_37 23 (rO (cL c61_36)) (fun N M G k e w =>
 N (xv (xbin .eql 3 (.tmp 8) (.const (.int .i64 9)) (e 8) (.int .i64 9))) w fun t133 w =>
 M t133 fun t132 =>
 k (Env.p e 132 t132) w) (by kernel_rfl) (by intros; kernel_rfl)
def c61_34_s:=@cond61 c61_34 c61_36 121 c61_35 (by kernel_rfl) (by kernel_rfl)
def c61_33_s:=@reg61 c61_33 c61_34 21 (rO (cL c61_33)) (fun N M G k e w =>
 N (xv (xbin .eql 3 (.tmp 8) (.const (.int .i64 8)) (e 8) (.int .i64 8))) w fun t122 w =>
 M t122 fun t121 =>
 k (Env.p e 121 t121) w) (by kernel_rfl) (by intros; kernel_rfl)
def c61_31_s:=@cond61 c61_31 c61_33 104 c61_32 (by kernel_rfl) (by kernel_rfl)
def c61_30_s:=@reg61 c61_30 c61_31 19 (rO (cL c61_30)) (fun N M G k e w =>
 N (xv (xbin .eql 3 (.tmp 8) (.const (.int .i64 7)) (e 8) (.int .i64 7))) w fun t105 w =>
 M t105 fun t104 =>
 k (Env.p e 104 t104) w) (by kernel_rfl) (by intros; kernel_rfl)
def c61_25_s:=@cond61 c61_25 c61_30 84 c61_26 (by kernel_rfl) (by kernel_rfl)
def c61_24_s:=@reg61 c61_24 c61_25 15 (rO (cL c61_24)) (fun N M G k e w =>
 N (xv (xbin .eql 3 (.tmp 8) (.const (.int .i64 6)) (e 8) (.int .i64 6))) w fun t85 w =>
 M t85 fun t84 =>
 k (Env.p e 84 t84) w) (by kernel_rfl) (by intros; kernel_rfl)
def c61_22_s:=@cond61 c61_22 c61_24 70 c61_23 (by kernel_rfl) (by kernel_rfl)
def c61_21_s:=@reg61 c61_21 c61_22 13 (rO (cL c61_21)) (fun N M G k e w =>
 N (xv (xbin .eql 3 (.tmp 8) (.const (.int .i64 5)) (e 8) (.int .i64 5))) w fun t71 w =>
 M t71 fun t70 =>
 k (Env.p e 70 t70) w) (by kernel_rfl) (by intros; kernel_rfl)
def c61_16_s:=@cond61 c61_16 c61_21 51 c61_17 (by kernel_rfl) (by kernel_rfl)
def c61_15_s:=@reg61 c61_15 c61_16 9 (rO (cL c61_15)) (fun N M G k e w =>
 N (xv (xbin .eql 3 (.tmp 8) (.const (.int .i64 4)) (e 8) (.int .i64 4))) w fun t52 w =>
 M t52 fun t51 =>
 k (Env.p e 51 t51) w) (by kernel_rfl) (by intros; kernel_rfl)
def c61_13_s:=@cond61 c61_13 c61_15 34 c61_14 (by kernel_rfl) (by kernel_rfl)
def c61_12_s:=@reg61 c61_12 c61_13 7 (rO (cL c61_12)) (fun N M G k e w =>
 N (xv (xbin .eql 3 (.tmp 8) (.const (.int .i64 3)) (e 8) (.int .i64 3))) w fun t35 w =>
 M t35 fun t34 =>
 k (Env.p e 34 t34) w) (by kernel_rfl) (by intros; kernel_rfl)
def c61_10_s:=@cond61 c61_10 c61_12 20 c61_11 (by kernel_rfl) (by kernel_rfl)
def c61_9_s:=@reg61 c61_9 c61_10 5 (rO (cL c61_9)) (fun N M G k e w =>
 N (xv (xbin .eql 3 (.tmp 8) (.const (.int .i64 2)) (e 8) (.int .i64 2))) w fun t21 w =>
 M t21 fun t20 =>
 k (Env.p e 20 t20) w) (by kernel_rfl) (by intros; kernel_rfl)
def c61_7_s:=@cond61 c61_7 c61_9 9 c61_8 (by kernel_rfl) (by kernel_rfl)
def c61_6_s:=@reg61 c61_6 c61_7 3 (rO (cL c61_6)) (fun N M G k e w =>
 N (xv (xbin .eql 3 (.tmp 8) (.const (.int .i64 1)) (e 8) (.int .i64 1))) w fun t10 w =>
 M t10 fun t9 =>
 k (Env.p e 9 t9) w) (by kernel_rfl) (by intros; kernel_rfl)
def c61_5_s:=@block61 c61_5 c61_6 0 (by kernel_rfl)
def c61_4_s:=@reg61 c61_4 c61_5 2 (rO (cL c61_4)) (fun N M G k e w =>
 N (xv (fieldAt 40 (e 1) 0)) w fun t7 w =>
 N (xv (loadAt 3 t7)) w fun t8 w =>
 k (Env.p e 8 t8) w) (by kernel_rfl) (by intros; kernel_rfl)
def c61_2_s:=@seq61 c61_2 c61_3 c61_4 (by kernel_rfl)
def c61_1_s:=@reg61 c61_1 c61_2 1 (rO (cL c61_1)) (fun N M G k e w =>
 N (xv (fieldAt 40 (e 1) 0)) w fun t4 w =>
 N (xv (loadAt 3 t4)) w fun t5 w =>
 N (xv (Instr.build 40 ([(0, t5)]).toArray)) w fun t6 w =>
 N (xv (Instr.alloc 40 true (.tuple #[]))) w fun t3 w =>
 N (xu (storeAt 40 t3 t6)) w fun _ w =>
 k (Env.p e 3 t3) w) (by kernel_rfl) (by intros; kernel_rfl)
def c61_s:=@reg61 c61 c61_1 0 (rO (cL c61)) (fun N M G k e w =>
 N (xv (Instr.box 40 (e 0))) w fun t1 w =>
 N (xv (Instr.alloc 40 true (.tuple #[]))) w fun t2 w =>
 k (Env.p (Env.p e 1 t1) 2 t2) w) (by kernel_rfl) (by intros; kernel_rfl)
theorem call61 {a0 : Value} {w : World} {R : Value → World → Prop} (h : W3 Tryz.prog 160 V61 c61 (retQ Tryz.prog [.cell 2 40] R) (argE [a0]) w) : CallsN Tryz.prog 61 [a0] w R :=
 callsN_of_W3 (c := c61) (rs := [.cell 2 40]) V61 Tryz.ntmps61 (by rw [Tryz.results61]) mixed Tryz.func61 (by kernel_rfl) (by kernel_rfl) (by kernel_rfl) (by kernel_rfl) (by simp) h
def w3t_61:=w3t Tryz.prog 160 V61
def hk61 := aI @c61_3_s <| aI @c61_8_s <| aI @c61_11_s <| aI @c61_14_s <| aI @c61_20_s <| aI @c61_19_s <| aI @c61_18_s <| aI @c61_17_s <| aI @c61_23_s <| aI @c61_29_s <| aI @c61_28_s <| aI @c61_27_s <| aI @c61_26_s <| aI @c61_32_s <| aI @c61_35_s <| aI @c61_38_s <| aI @c61_41_s <| aI @c61_44_s <| aI @c61_43_s <| aI @c61_42_s <| aI @c61_40_s <| aI @c61_39_s <| aI @c61_37_s <| aI @c61_36_s <| aI @c61_34_s <| aI @c61_33_s <| aI @c61_31_s <| aI @c61_30_s <| aI @c61_25_s <| aI @c61_24_s <| aI @c61_22_s <| aI @c61_21_s <| aI @c61_16_s <| aI @c61_15_s <| aI @c61_13_s <| aI @c61_12_s <| aI @c61_10_s <| aI @c61_9_s <| aI @c61_7_s <| aI @c61_6_s <| aI @c61_5_s <| aI @c61_4_s <| aI @c61_2_s <| aI @c61_1_s <| aI @c61_s <| @w3t_61
-- K61: ↓hk61
/-! ### vouch/vouchref13.Same -/
def V20 : Nat → Bool := fun i => [0, 1, 2, 3, 4, 5, 105, 110, 123].elem i
def block20:=@s_block Tryz.prog 129 V20
def cond20:=@s_cond Tryz.prog 129 V20
def drw20:=@s_drw Tryz.prog 129 V20
def loop20:=@s_loop Tryz.prog 129 V20
def reg20:=@s_reg Tryz.prog 129 V20
def rend20:=@s_rend Tryz.prog 129 V20
def seq20:=@s_seq Tryz.prog 129 V20
noncomputable def c20:Code:=(Tryz.f20.body.getD .skip)
noncomputable def c20_1:=cR c20
noncomputable def c20_2:=cR c20_1
noncomputable def c20_3:=cR c20_2
noncomputable def c20_4:=cL c20_2
noncomputable def c20_5:=cR c20_4
noncomputable def c20_6:=cL c20_5
noncomputable def c20_7:=cL c20_6
noncomputable def c20_8:=cR c20_7
noncomputable def c20_9:=cR c20_8
noncomputable def c20_10:=cL c20_8
noncomputable def c20_11:=cL c20_10
noncomputable def b20_6:List Row:=[(0, 0, 4, 114, true), (1, 1, 10384593717069655257060992658440192, 115, true), (0, 0, 32, 116, true), (6, 7, 62307562302417931542365955950641152, 117, true), (8, 15, 83076749736557242056487941267521536, 118, true), (0, 0, 8, 119, true), (32, 32, 332306998946228968225951765070086144, 120, true), (0, 0, 32, 121, true), (192, 224, 1993841993677373809355710590420516864, 122, true), (256, 480, 2658455991569831745807614120560689152, 123, true), (528, 1023, 5483065482612777975728204123656421376, 124, true)]
noncomputable def c20_12:=cR c20_11
noncomputable def c20_13:=cL c20_12
noncomputable def c20_14:=cL c20_7
noncomputable def c20_15:=cR c20_14
noncomputable def c20_16:=cL c20_1
noncomputable def c20_17:=cR c20_16
noncomputable def c20_18:=cL c20_17
def c20_3_s:=@reg20 c20_3 .ret 8 (rO (cL c20_3)) (fun N M G k e w =>
 N (xv (fieldAt 40 (e 2) 13)) w fun t124 w =>
 N (xv (loadAt 38 t124)) w fun t125 w =>
 N (xv (fieldAt 40 (e 3) 13)) w fun t126 w =>
 N (xv (loadAt 38 t126)) w fun t127 w =>
 N (xcall (.func (.func 45) #[] #[]) [t125, t127]) w fun t128 w =>
 M t128 fun t4 =>
 k (Env.p e 4 t4) w) (by kernel_rfl) (by intros; kernel_rfl)
def c20_9_s:=@rend20 c20_9 5 (rO c20_9) (fun N M G k e w =>
 M (e 5) fun t111 =>
 N (xv (xbin .add 3 (.tmp 111) (.const (.int .i64 1)) t111 (.int .i64 1))) w fun t112 w =>
 M t112 fun t5 =>
 k (Env.p e 5 t5) w) (by kernel_rfl) (by intros; kernel_rfl)
def c20_13_s:=@reg20 c20_13 .ret 7 (rO (cL c20_13)) (fun N M G k e w =>
 M (.bool false) fun t4 =>
 k (Env.p e 4 t4) w) (by kernel_rfl) (by intros; kernel_rfl)
def c20_12_s:=@cond20 c20_12 .skip 123 c20_13 (by kernel_rfl) (by kernel_rfl)
def c20_11_s:=@drw20 c20_11 c20_12 6 (rO (cL c20_11)) b20_6 11 (fun N T M G H Y k e w =>
 T (FrX none w) (xv (fieldAt 40 (e 2) 12)) fun t113 =>
 T (FrX (some []) w) (xv (loadAt 37 t113)) fun t114 =>
 M (e 5) fun t115 =>
 T (FrX none w) (xv (indexAt 37 t114 t115)) fun t116 =>
 T (FrX (some []) w) (xv (loadAt 66 t116)) fun t117 =>
 T (FrX none w) (xv (fieldAt 40 (e 3) 12)) fun t118 =>
 T (FrX (some []) w) (xv (loadAt 37 t118)) fun t119 =>
 M (e 5) fun t120 =>
 T (FrX none w) (xv (indexAt 37 t119 t120)) fun t121 =>
 T (FrX (some []) w) (xv (loadAt 66 t121)) fun t122 =>
 T (FrX none w) (xv (xbin .neq 66 (.tmp 117) (.tmp 122) t117 t122)) fun t123 =>
 k (Env.p e 123 t123) w) (by kernel_rfl) (by kernel_rfl) (by kernel_rfl) (by intros; kernel_rfl)
def c20_10_s:=@block20 c20_10 c20_11 1 (by kernel_rfl)
def c20_8_s:=@seq20 c20_8 c20_9 c20_10 (by kernel_rfl)
def c20_15_s:=@cond20 c20_15 (.exit 0) 110 .skip (by kernel_rfl) (by kernel_rfl)
def c20_14_s:=@reg20 c20_14 c20_15 4 (rO (cL c20_14)) (fun N M G k e w =>
 M (e 5) fun t106 =>
 N (xv (fieldAt 40 (e 2) 12)) w fun t107 w =>
 N (xv (loadAt 37 t107)) w fun t108 w =>
 N (builtin Builtin.len #[37] 3 ([false]).toArray ([t108]).toArray) w fun t109 w =>
 N (xv (xbin .lss 3 (.tmp 106) (.tmp 109) t106 t109)) w fun t110 w =>
 k (Env.p e 110 t110) w) (by kernel_rfl) (by intros; kernel_rfl)
def c20_7_s:=@seq20 c20_7 c20_8 c20_14 (by kernel_rfl)
def c20_6_s:=@loop20 c20_6 c20_7 (by kernel_rfl)
def c20_5_s:=@block20 c20_5 c20_6 0 (by kernel_rfl)
def c20_4_s:=@reg20 c20_4 c20_5 3 (rO (cL c20_4)) (fun N M G k e w =>
 M (.int .i64 0) fun t5 =>
 k (Env.p e 5 t5) w) (by kernel_rfl) (by intros; kernel_rfl)
def c20_2_s:=@seq20 c20_2 c20_3 c20_4 (by kernel_rfl)
def c20_18_s:=@reg20 c20_18 .ret 2 (rO (cL c20_18)) (fun N M G k e w =>
 M (.bool false) fun t4 =>
 k (Env.p e 4 t4) w) (by kernel_rfl) (by intros; kernel_rfl)
def c20_17_s:=@cond20 c20_17 .skip 105 c20_18 (by kernel_rfl) (by kernel_rfl)
def c20_16_s:=@reg20 c20_16 c20_17 1 (rO (cL c20_16)) (fun N M G k e w =>
 N (xv (fieldAt 40 (e 2) 0)) w fun t6 w =>
 N (xv (loadAt 3 t6)) w fun t7 w =>
 N (xv (fieldAt 40 (e 3) 0)) w fun t8 w =>
 N (xv (loadAt 3 t8)) w fun t9 w =>
 N (xv (xbin .neq 3 (.tmp 7) (.tmp 9) t7 t9)) w fun t10 w =>
 M t10 fun t11 =>
 G (isB t11 false) (fun K => N (xv (fieldAt 40 (e 2) 1)) w K) (fun t12 w =>
 G (isB t11 false) (fun K => N (xv (loadAt 3 t12)) w K) (fun t13 w =>
 G (isB t11 false) (fun K => N (xv (fieldAt 40 (e 3) 1)) w K) (fun t14 w =>
 G (isB t11 false) (fun K => N (xv (loadAt 3 t14)) w K) (fun t15 w =>
 G (isB t11 false) (fun K => N (xv (xbin .neq 3 (.tmp 13) (.tmp 15) t13 t15)) w K) (fun t16 w =>
 N (xpick t11 (.bool true) t16) w fun t17 w =>
 M t17 fun t18 =>
 G (isB t18 false) (fun K => N (xv (fieldAt 40 (e 2) 2)) w K) (fun t19 w =>
 G (isB t18 false) (fun K => N (xv (loadAt 3 t19)) w K) (fun t20 w =>
 G (isB t18 false) (fun K => N (xv (fieldAt 40 (e 3) 2)) w K) (fun t21 w =>
 G (isB t18 false) (fun K => N (xv (loadAt 3 t21)) w K) (fun t22 w =>
 G (isB t18 false) (fun K => N (xv (xbin .neq 3 (.tmp 20) (.tmp 22) t20 t22)) w K) (fun t23 w =>
 N (xpick t18 (.bool true) t23) w fun t24 w =>
 M t24 fun t25 =>
 G (isB t25 false) (fun K => N (xv (fieldAt 40 (e 2) 3)) w K) (fun t26 w =>
 G (isB t25 false) (fun K => N (xv (loadAt 3 t26)) w K) (fun t27 w =>
 G (isB t25 false) (fun K => N (xv (fieldAt 40 (e 3) 3)) w K) (fun t28 w =>
 G (isB t25 false) (fun K => N (xv (loadAt 3 t28)) w K) (fun t29 w =>
 G (isB t25 false) (fun K => N (xv (xbin .neq 3 (.tmp 27) (.tmp 29) t27 t29)) w K) (fun t30 w =>
 N (xpick t25 (.bool true) t30) w fun t31 w =>
 M t31 fun t32 =>
 G (isB t32 false) (fun K => N (xv (fieldAt 40 (e 2) 4)) w K) (fun t33 w =>
 G (isB t32 false) (fun K => N (xv (loadAt 3 t33)) w K) (fun t34 w =>
 G (isB t32 false) (fun K => N (xv (fieldAt 40 (e 3) 4)) w K) (fun t35 w =>
 G (isB t32 false) (fun K => N (xv (loadAt 3 t35)) w K) (fun t36 w =>
 G (isB t32 false) (fun K => N (xv (xbin .neq 3 (.tmp 34) (.tmp 36) t34 t36)) w K) (fun t37 w =>
 N (xpick t32 (.bool true) t37) w fun t38 w =>
 M t38 fun t39 =>
 G (isB t39 false) (fun K => N (xv (fieldAt 40 (e 2) 5)) w K) (fun t40 w =>
 G (isB t39 false) (fun K => N (xv (loadAt 3 t40)) w K) (fun t41 w =>
 G (isB t39 false) (fun K => N (xv (fieldAt 40 (e 3) 5)) w K) (fun t42 w =>
 G (isB t39 false) (fun K => N (xv (loadAt 3 t42)) w K) (fun t43 w =>
 G (isB t39 false) (fun K => N (xv (xbin .neq 3 (.tmp 41) (.tmp 43) t41 t43)) w K) (fun t44 w =>
 N (xpick t39 (.bool true) t44) w fun t45 w =>
 M t45 fun t46 =>
 G (isB t46 false) (fun K => N (xv (fieldAt 40 (e 2) 6)) w K) (fun t47 w =>
 G (isB t46 false) (fun K => N (xv (loadAt 9 t47)) w K) (fun t48 w =>
 G (isB t46 false) (fun K => N (xv (fieldAt 40 (e 3) 6)) w K) (fun t49 w =>
 G (isB t46 false) (fun K => N (xv (loadAt 9 t49)) w K) (fun t50 w =>
 G (isB t46 false) (fun K => N (xv (xbin .neq 9 (.tmp 48) (.tmp 50) t48 t50)) w K) (fun t51 w =>
 N (xpick t46 (.bool true) t51) w fun t52 w =>
 M t52 fun t53 =>
 G (isB t53 false) (fun K => N (xv (fieldAt 40 (e 2) 7)) w K) (fun t54 w =>
 G (isB t53 false) (fun K => N (xv (loadAt 33 t54)) w K) (fun t55 w =>
 G (isB t53 false) (fun K => N (xv (fieldAt 40 (e 3) 7)) w K) (fun t56 w =>
 G (isB t53 false) (fun K => N (xv (loadAt 33 t56)) w K) (fun t57 w =>
 G (isB t53 false) (fun K => N (xv (xbin .neq 33 (.tmp 55) (.tmp 57) t55 t57)) w K) (fun t58 w =>
 N (xpick t53 (.bool true) t58) w fun t59 w =>
 M t59 fun t60 =>
 G (isB t60 false) (fun K => N (xv (fieldAt 40 (e 2) 8)) w K) (fun t61 w =>
 G (isB t60 false) (fun K => N (xv (loadAt 35 t61)) w K) (fun t62 w =>
 G (isB t60 false) (fun K => N (xv (fieldAt 40 (e 3) 8)) w K) (fun t63 w =>
 G (isB t60 false) (fun K => N (xv (loadAt 35 t63)) w K) (fun t64 w =>
 G (isB t60 false) (fun K => N (xv (xbin .neq 35 (.tmp 62) (.tmp 64) t62 t64)) w K) (fun t65 w =>
 N (xpick t60 (.bool true) t65) w fun t66 w =>
 M t66 fun t67 =>
 G (isB t67 false) (fun K => N (xv (fieldAt 40 (e 2) 9)) w K) (fun t68 w =>
 G (isB t67 false) (fun K => N (xv (loadAt 4 t68)) w K) (fun t69 w =>
 G (isB t67 false) (fun K => N (xv (fieldAt 40 (e 3) 9)) w K) (fun t70 w =>
 G (isB t67 false) (fun K => N (xv (loadAt 4 t70)) w K) (fun t71 w =>
 G (isB t67 false) (fun K => N (xv (xbin .neq 4 (.tmp 69) (.tmp 71) t69 t71)) w K) (fun t72 w =>
 N (xpick t67 (.bool true) t72) w fun t73 w =>
 M t73 fun t74 =>
 G (isB t74 false) (fun K => N (xv (fieldAt 40 (e 2) 10)) w K) (fun t75 w =>
 G (isB t74 false) (fun K => N (xv (loadAt 36 t75)) w K) (fun t76 w =>
 G (isB t74 false) (fun K => N (xv (fieldAt 40 (e 3) 10)) w K) (fun t77 w =>
 G (isB t74 false) (fun K => N (xv (loadAt 36 t77)) w K) (fun t78 w =>
 G (isB t74 false) (fun K => N (xv (xbin .neq 36 (.tmp 76) (.tmp 78) t76 t78)) w K) (fun t79 w =>
 N (xpick t74 (.bool true) t79) w fun t80 w =>
 M t80 fun t81 =>
 G (isB t81 false) (fun K => N (xv (fieldAt 40 (e 2) 11)) w K) (fun t82 w =>
 G (isB t81 false) (fun K => N (xv (loadAt 2 t82)) w K) (fun t83 w =>
 G (isB t81 false) (fun K => N (xv (fieldAt 40 (e 3) 11)) w K) (fun t84 w =>
 G (isB t81 false) (fun K => N (xv (loadAt 2 t84)) w K) (fun t85 w =>
 G (isB t81 false) (fun K => N (xv (xbin .neq 2 (.tmp 83) (.tmp 85) t83 t85)) w K) (fun t86 w =>
 N (xpick t81 (.bool true) t86) w fun t87 w =>
 M t87 fun t88 =>
 G (isB t88 false) (fun K => N (xv (fieldAt 40 (e 2) 12)) w K) (fun t89 w =>
 G (isB t88 false) (fun K => N (xv (loadAt 37 t89)) w K) (fun t90 w =>
 G (isB t88 false) (fun K => N (builtin Builtin.len #[37] 3 ([false]).toArray ([t90]).toArray) w K) (fun t91 w =>
 G (isB t88 false) (fun K => N (xv (fieldAt 40 (e 3) 12)) w K) (fun t92 w =>
 G (isB t88 false) (fun K => N (xv (loadAt 37 t92)) w K) (fun t93 w =>
 G (isB t88 false) (fun K => N (builtin Builtin.len #[37] 3 ([false]).toArray ([t93]).toArray) w K) (fun t94 w =>
 G (isB t88 false) (fun K => N (xv (xbin .neq 3 (.tmp 91) (.tmp 94) t91 t94)) w K) (fun t95 w =>
 N (xpick t88 (.bool true) t95) w fun t96 w =>
 M t96 fun t97 =>
 G (isB t97 false) (fun K => N (xv (fieldAt 40 (e 2) 13)) w K) (fun t98 w =>
 G (isB t97 false) (fun K => N (xv (loadAt 38 t98)) w K) (fun t99 w =>
 G (isB t97 false) (fun K => N (builtin Builtin.len #[38] 3 ([false]).toArray ([t99]).toArray) w K) (fun t100 w =>
 G (isB t97 false) (fun K => N (xv (fieldAt 40 (e 3) 13)) w K) (fun t101 w =>
 G (isB t97 false) (fun K => N (xv (loadAt 38 t101)) w K) (fun t102 w =>
 G (isB t97 false) (fun K => N (builtin Builtin.len #[38] 3 ([false]).toArray ([t102]).toArray) w K) (fun t103 w =>
 G (isB t97 false) (fun K => N (xv (xbin .neq 3 (.tmp 100) (.tmp 103) t100 t103)) w K) (fun t104 w =>
 N (xpick t97 (.bool true) t104) w fun t105 w =>
 k (Env.p e 105 t105) w) w) w) w) w) w) w) w) w) w) w) w) w) w) w) w) w) w) w) w) w) w) w) w) w) w) w) w) w) w) w) w) w) w) w) w) w) w) w) w) w) w) w) w) w) w) w) w) w) w) w) w) w) w) w) w) w) w) w) w) w) w) w) w) w) w) w) w) w) w) (by kernel_rfl) (by intros; kernel_rfl)
def c20_1_s:=@seq20 c20_1 c20_2 c20_16 (by kernel_rfl)
def c20_s:=@reg20 c20 c20_1 0 (rO (cL c20)) (fun N M G k e w =>
 N (xv (Instr.box 40 (e 0))) w fun t2 w =>
 N (xv (Instr.box 40 (e 1))) w fun t3 w =>
 M (.bool false) fun t4 =>
 k (Env.p (Env.p (Env.p e 2 t2) 3 t3) 4 t4) w) (by kernel_rfl) (by intros; kernel_rfl)
theorem call20 {a0 a1 : Value} {w : World} {R : Value → World → Prop} (h : W3 Tryz.prog 129 V20 c20 (retQ Tryz.prog [.tmp 4] R) (argE [a0, a1]) w) : CallsN Tryz.prog 20 [a0, a1] w R :=
 callsN_of_W3 (c := c20) (rs := [.tmp 4]) V20 Tryz.ntmps20 (by rw [Tryz.results20]) mixed Tryz.func20 (by kernel_rfl) (by kernel_rfl) (by kernel_rfl) (by kernel_rfl) (by simp) h
def w3t_20:=w3t Tryz.prog 129 V20
def hk20 := aI @c20_3_s <| aI @c20_9_s <| aI @c20_13_s <| aI @c20_12_s <| aI @c20_11_s <| aI @c20_10_s <| aI @c20_8_s <| aI @c20_15_s <| aI @c20_14_s <| aI @c20_7_s <| aI @c20_6_s <| aI @c20_5_s <| aI @c20_4_s <| aI @c20_2_s <| aI @c20_18_s <| aI @c20_17_s <| aI @c20_16_s <| aI @c20_1_s <| aI @c20_s <| @w3t_20
-- K20: ↓hk20
/-! ### vouch/vouchref13.SameAll -/
def V9 : Nat → Bool := fun i => [0, 1, 4, 5, 10, 14, 26].elem i
def block9:=@s_block Tryz.prog 27 V9
def cond9:=@s_cond Tryz.prog 27 V9
def drw9:=@s_drw Tryz.prog 27 V9
def loop9:=@s_loop Tryz.prog 27 V9
def reg9:=@s_reg Tryz.prog 27 V9
def rend9:=@s_rend Tryz.prog 27 V9
def seq9:=@s_seq Tryz.prog 27 V9
noncomputable def c9:Code:=(Tryz.f9.body.getD .skip)
noncomputable def c9_1:=cR c9
noncomputable def c9_2:=cR c9_1
noncomputable def c9_3:=cR c9_2
noncomputable def c9_4:=cL c9_2
noncomputable def c9_5:=cR c9_4
noncomputable def c9_6:=cL c9_5
noncomputable def c9_7:=cL c9_6
noncomputable def c9_8:=cR c9_7
noncomputable def c9_9:=cR c9_8
noncomputable def c9_10:=cL c9_8
noncomputable def c9_11:=cL c9_10
noncomputable def b9_6:List Row:=[(0, 0, 1, 18, true), (0, 0, 32, 19, true), (3, 3, 393216, 20, true), (4, 7, 524288, 21, true), (0, 0, 2, 22, true), (0, 0, 32, 23, true), (48, 48, 6291456, 24, true), (64, 112, 8388608, 25, true), (136, 255, 17825792, 26, false), (256, 511, 33554432, 27, true)]
noncomputable def c9_12:=cR c9_11
noncomputable def c9_13:=cL c9_12
noncomputable def c9_14:=cL c9_7
noncomputable def c9_15:=cR c9_14
noncomputable def c9_16:=cL c9_1
noncomputable def c9_17:=cR c9_16
noncomputable def c9_18:=cL c9_17
def c9_3_s:=@reg9 c9_3 .ret 8 (rO (cL c9_3)) (fun N M G k e w =>
 M (.bool true) fun t4 =>
 k (Env.p e 4 t4) w) (by kernel_rfl) (by intros; kernel_rfl)
def c9_9_s:=@rend9 c9_9 5 (rO c9_9) (fun N M G k e w =>
 M (e 5) fun t15 =>
 N (xv (xbin .add 3 (.tmp 15) (.const (.int .i64 1)) t15 (.int .i64 1))) w fun t16 w =>
 M t16 fun t5 =>
 k (Env.p e 5 t5) w) (by kernel_rfl) (by intros; kernel_rfl)
def c9_13_s:=@reg9 c9_13 .ret 7 (rO (cL c9_13)) (fun N M G k e w =>
 M (.bool false) fun t4 =>
 k (Env.p e 4 t4) w) (by kernel_rfl) (by intros; kernel_rfl)
def c9_12_s:=@cond9 c9_12 .skip 26 c9_13 (by kernel_rfl) (by kernel_rfl)
def c9_11_s:=@drw9 c9_11 c9_12 6 (rO (cL c9_11)) b9_6 10 (fun N T M G H Y k e w =>
 M (e 0) fun t17 =>
 M (e 5) fun t18 =>
 T (FrX none w) (xv (indexAt 24 t17 t18)) fun t19 =>
 T (FrX (some []) w) (xv (loadAt 40 t19)) fun t20 =>
 M (e 1) fun t21 =>
 M (e 5) fun t22 =>
 T (FrX none w) (xv (indexAt 24 t21 t22)) fun t23 =>
 T (FrX (some []) w) (xv (loadAt 40 t23)) fun t24 =>
 N (xcall (.func (.func 20) #[] #[]) [t20, t24]) w fun t25 w8 =>
 T (FrX none w8) (xv (Op.unary .not t25)) fun t26 =>
 k (Env.p e 26 t26) w8) (by kernel_rfl) (by kernel_rfl) (by kernel_rfl) (by intros; kernel_rfl)
def c9_10_s:=@block9 c9_10 c9_11 1 (by kernel_rfl)
def c9_8_s:=@seq9 c9_8 c9_9 c9_10 (by kernel_rfl)
def c9_15_s:=@cond9 c9_15 (.exit 0) 14 .skip (by kernel_rfl) (by kernel_rfl)
def c9_14_s:=@reg9 c9_14 c9_15 4 (rO (cL c9_14)) (fun N M G k e w =>
 M (e 5) fun t11 =>
 M (e 0) fun t12 =>
 N (builtin Builtin.len #[24] 3 ([false]).toArray ([t12]).toArray) w fun t13 w =>
 N (xv (xbin .lss 3 (.tmp 11) (.tmp 13) t11 t13)) w fun t14 w =>
 k (Env.p e 14 t14) w) (by kernel_rfl) (by intros; kernel_rfl)
def c9_7_s:=@seq9 c9_7 c9_8 c9_14 (by kernel_rfl)
def c9_6_s:=@loop9 c9_6 c9_7 (by kernel_rfl)
def c9_5_s:=@block9 c9_5 c9_6 0 (by kernel_rfl)
def c9_4_s:=@reg9 c9_4 c9_5 3 (rO (cL c9_4)) (fun N M G k e w =>
 M (.int .i64 0) fun t5 =>
 k (Env.p e 5 t5) w) (by kernel_rfl) (by intros; kernel_rfl)
def c9_2_s:=@seq9 c9_2 c9_3 c9_4 (by kernel_rfl)
def c9_18_s:=@reg9 c9_18 .ret 2 (rO (cL c9_18)) (fun N M G k e w =>
 M (.bool false) fun t4 =>
 k (Env.p e 4 t4) w) (by kernel_rfl) (by intros; kernel_rfl)
def c9_17_s:=@cond9 c9_17 .skip 10 c9_18 (by kernel_rfl) (by kernel_rfl)
def c9_16_s:=@reg9 c9_16 c9_17 1 (rO (cL c9_16)) (fun N M G k e w =>
 M (e 0) fun t6 =>
 N (builtin Builtin.len #[24] 3 ([false]).toArray ([t6]).toArray) w fun t7 w =>
 M (e 1) fun t8 =>
 N (builtin Builtin.len #[24] 3 ([false]).toArray ([t8]).toArray) w fun t9 w =>
 N (xv (xbin .neq 3 (.tmp 7) (.tmp 9) t7 t9)) w fun t10 w =>
 k (Env.p e 10 t10) w) (by kernel_rfl) (by intros; kernel_rfl)
def c9_1_s:=@seq9 c9_1 c9_2 c9_16 (by kernel_rfl)
def c9_s:=@reg9 c9 c9_1 0 (rO (cL c9)) (fun N M G k e w =>
 M (.bool false) fun t4 =>
 k (Env.p e 4 t4) w) (by kernel_rfl) (by intros; kernel_rfl)
theorem call9 {a0 a1 : Value} {w : World} {R : Value → World → Prop} (h : W3 Tryz.prog 27 V9 c9 (retQ Tryz.prog [.tmp 4] R) (argE [a0, a1]) w) : CallsN Tryz.prog 9 [a0, a1] w R :=
 callsN_of_W3 (c := c9) (rs := [.tmp 4]) V9 Tryz.ntmps9 (by rw [Tryz.results9]) mixed Tryz.func9 (by kernel_rfl) (by kernel_rfl) (by kernel_rfl) (by kernel_rfl) (by simp) h
def w3t_9:=w3t Tryz.prog 27 V9
def hk9 := aI @c9_3_s <| aI @c9_9_s <| aI @c9_13_s <| aI @c9_12_s <| aI @c9_11_s <| aI @c9_10_s <| aI @c9_8_s <| aI @c9_15_s <| aI @c9_14_s <| aI @c9_7_s <| aI @c9_6_s <| aI @c9_5_s <| aI @c9_4_s <| aI @c9_2_s <| aI @c9_18_s <| aI @c9_17_s <| aI @c9_16_s <| aI @c9_1_s <| aI @c9_s <| @w3t_9
-- K9: ↓hk9
/-! ### vouch/vouchref13.goodWrites -/
def V62 : Nat → Bool := fun i => [0, 2, 3, 7, 25].elem i
def block62:=@s_block Tryz.prog 29 V62
def cond62:=@s_cond Tryz.prog 29 V62
def loop62:=@s_loop Tryz.prog 29 V62
def reg62:=@s_reg Tryz.prog 29 V62
def rend62:=@s_rend Tryz.prog 29 V62
def seq62:=@s_seq Tryz.prog 29 V62
noncomputable def c62:Code:=(Tryz.f62.body.getD .skip)
noncomputable def c62_1:=cR c62
noncomputable def c62_2:=cR c62_1
noncomputable def c62_3:=cL c62_1
noncomputable def c62_4:=cR c62_3
noncomputable def c62_5:=cL c62_4
noncomputable def c62_6:=cL c62_5
noncomputable def c62_7:=cR c62_6
noncomputable def c62_8:=cR c62_7
noncomputable def c62_9:=cL c62_7
noncomputable def c62_10:=cL c62_9
noncomputable def c62_11:=cR c62_10
noncomputable def c62_12:=cL c62_11
noncomputable def c62_13:=cL c62_6
noncomputable def c62_14:=cR c62_13
def c62_2_s:=@reg62 c62_2 .ret 6 (rO (cL c62_2)) (fun N M G k e w =>
 M (e 0) fun t26 =>
 N (builtin Builtin.len #[37] 3 ([false]).toArray ([t26]).toArray) w fun t27 w =>
 N (xcall (.func (.func 60) #[] #[]) [t27, (.int .i64 1), (.int .i64 8)]) w fun t28 w =>
 M t28 fun t2 =>
 k (Env.p e 2 t2) w) (by kernel_rfl) (by intros; kernel_rfl)
def c62_8_s:=@rend62 c62_8 3 (rO c62_8) (fun N M G k e w =>
 M (e 3) fun t8 =>
 N (xv (xbin .add 3 (.tmp 8) (.const (.int .i64 1)) t8 (.int .i64 1))) w fun t9 w =>
 M t9 fun t3 =>
 k (Env.p e 3 t3) w) (by kernel_rfl) (by intros; kernel_rfl)
def c62_12_s:=@reg62 c62_12 .ret 5 (rO (cL c62_12)) (fun N M G k e w =>
 M (.bool false) fun t2 =>
 k (Env.p e 2 t2) w) (by kernel_rfl) (by intros; kernel_rfl)
def c62_11_s:=@cond62 c62_11 .skip 25 c62_12 (by kernel_rfl) (by kernel_rfl)
def c62_10_s:=@reg62 c62_10 c62_11 4 (rO (cL c62_10)) (fun N M G k e w =>
 M (e 0) fun t10 =>
 M (e 3) fun t11 =>
 N (xv (indexAt 37 t10 t11)) w fun t12 w =>
 N (xv (fieldAt 66 t12 0)) w fun t13 w =>
 N (xv (loadAt 9 t13)) w fun t14 w =>
 N (xcall (.func (.func 41) #[] #[]) [t14]) w fun t15 w =>
 N (xv (Op.unary .not t15)) w fun t16 w =>
 M t16 fun t17 =>
 G (isB t17 false) (fun K => M (e 0) fun v => K v w) (fun t18 w =>
 G (isB t17 false) (fun K => M (e 3) fun v => K v w) (fun t19 w =>
 G (isB t17 false) (fun K => N (xv (indexAt 37 t18 t19)) w K) (fun t20 w =>
 G (isB t17 false) (fun K => N (xv (fieldAt 66 t20 1)) w K) (fun t21 w =>
 G (isB t17 false) (fun K => N (xv (loadAt 35 t21)) w K) (fun t22 w =>
 G (isB t17 false) (fun K => N (xcall (.func (.func 64) #[] #[]) [t22]) w K) (fun t23 w =>
 G (isB t17 false) (fun K => N (xv (Op.unary .not t23)) w K) (fun t24 w =>
 N (xpick t17 (.bool true) t24) w fun t25 w =>
 k (Env.p e 25 t25) w) w) w) w) w) w) w) w) (by kernel_rfl) (by intros; kernel_rfl)
def c62_9_s:=@block62 c62_9 c62_10 1 (by kernel_rfl)
def c62_7_s:=@seq62 c62_7 c62_8 c62_9 (by kernel_rfl)
def c62_14_s:=@cond62 c62_14 (.exit 0) 7 .skip (by kernel_rfl) (by kernel_rfl)
def c62_13_s:=@reg62 c62_13 c62_14 2 (rO (cL c62_13)) (fun N M G k e w =>
 M (e 3) fun t4 =>
 M (e 0) fun t5 =>
 N (builtin Builtin.len #[37] 3 ([false]).toArray ([t5]).toArray) w fun t6 w =>
 N (xv (xbin .lss 3 (.tmp 4) (.tmp 6) t4 t6)) w fun t7 w =>
 k (Env.p e 7 t7) w) (by kernel_rfl) (by intros; kernel_rfl)
def c62_6_s:=@seq62 c62_6 c62_7 c62_13 (by kernel_rfl)
def c62_5_s:=@loop62 c62_5 c62_6 (by kernel_rfl)
def c62_4_s:=@block62 c62_4 c62_5 0 (by kernel_rfl)
def c62_3_s:=@reg62 c62_3 c62_4 1 (rO (cL c62_3)) (fun N M G k e w =>
 M (.int .i64 0) fun t3 =>
 k (Env.p e 3 t3) w) (by kernel_rfl) (by intros; kernel_rfl)
def c62_1_s:=@seq62 c62_1 c62_2 c62_3 (by kernel_rfl)
def c62_s:=@reg62 c62 c62_1 0 (rO (cL c62)) (fun N M G k e w =>
 M (.bool false) fun t2 =>
 k (Env.p e 2 t2) w) (by kernel_rfl) (by intros; kernel_rfl)
theorem call62 {a0 : Value} {w : World} {R : Value → World → Prop} (h : W3 Tryz.prog 29 V62 c62 (retQ Tryz.prog [.tmp 2] R) (argE [a0]) w) : CallsN Tryz.prog 62 [a0] w R :=
 callsN_of_W3 (c := c62) (rs := [.tmp 2]) V62 Tryz.ntmps62 (by rw [Tryz.results62]) mixed Tryz.func62 (by kernel_rfl) (by kernel_rfl) (by kernel_rfl) (by kernel_rfl) (by simp) h
def w3t_62:=w3t Tryz.prog 29 V62
def hk62 := aI @c62_2_s <| aI @c62_8_s <| aI @c62_12_s <| aI @c62_11_s <| aI @c62_10_s <| aI @c62_9_s <| aI @c62_7_s <| aI @c62_14_s <| aI @c62_13_s <| aI @c62_6_s <| aI @c62_5_s <| aI @c62_4_s <| aI @c62_3_s <| aI @c62_1_s <| aI @c62_s <| @w3t_62
-- K62: ↓hk62
/-! ### vouch/vouchref13.goodKeys -/
def V65 : Nat → Bool := fun i => [0, 2, 3, 7, 15].elem i
def block65:=@s_block Tryz.prog 19 V65
def cond65:=@s_cond Tryz.prog 19 V65
def loop65:=@s_loop Tryz.prog 19 V65
def reg65:=@s_reg Tryz.prog 19 V65
def rend65:=@s_rend Tryz.prog 19 V65
def seq65:=@s_seq Tryz.prog 19 V65
noncomputable def c65:Code:=(Tryz.f65.body.getD .skip)
noncomputable def c65_1:=cR c65
noncomputable def c65_2:=cR c65_1
noncomputable def c65_3:=cL c65_1
noncomputable def c65_4:=cR c65_3
noncomputable def c65_5:=cL c65_4
noncomputable def c65_6:=cL c65_5
noncomputable def c65_7:=cR c65_6
noncomputable def c65_8:=cR c65_7
noncomputable def c65_9:=cL c65_7
noncomputable def c65_10:=cL c65_9
noncomputable def c65_11:=cR c65_10
noncomputable def c65_12:=cL c65_11
noncomputable def c65_13:=cL c65_6
noncomputable def c65_14:=cR c65_13
def c65_2_s:=@reg65 c65_2 .ret 6 (rO (cL c65_2)) (fun N M G k e w =>
 M (e 0) fun t16 =>
 N (builtin Builtin.len #[38] 3 ([false]).toArray ([t16]).toArray) w fun t17 w =>
 N (xcall (.func (.func 60) #[] #[]) [t17, (.int .i64 1), (.int .i64 8)]) w fun t18 w =>
 M t18 fun t2 =>
 k (Env.p e 2 t2) w) (by kernel_rfl) (by intros; kernel_rfl)
def c65_8_s:=@rend65 c65_8 3 (rO c65_8) (fun N M G k e w =>
 M (e 3) fun t8 =>
 N (xv (xbin .add 3 (.tmp 8) (.const (.int .i64 1)) t8 (.int .i64 1))) w fun t9 w =>
 M t9 fun t3 =>
 k (Env.p e 3 t3) w) (by kernel_rfl) (by intros; kernel_rfl)
def c65_12_s:=@reg65 c65_12 .ret 5 (rO (cL c65_12)) (fun N M G k e w =>
 M (.bool false) fun t2 =>
 k (Env.p e 2 t2) w) (by kernel_rfl) (by intros; kernel_rfl)
def c65_11_s:=@cond65 c65_11 .skip 15 c65_12 (by kernel_rfl) (by kernel_rfl)
def c65_10_s:=@reg65 c65_10 c65_11 4 (rO (cL c65_10)) (fun N M G k e w =>
 M (e 0) fun t10 =>
 M (e 3) fun t11 =>
 N (xv (indexAt 38 t10 t11)) w fun t12 w =>
 N (xv (loadAt 9 t12)) w fun t13 w =>
 N (xcall (.func (.func 41) #[] #[]) [t13]) w fun t14 w =>
 N (xv (Op.unary .not t14)) w fun t15 w =>
 k (Env.p e 15 t15) w) (by kernel_rfl) (by intros; kernel_rfl)
def c65_9_s:=@block65 c65_9 c65_10 1 (by kernel_rfl)
def c65_7_s:=@seq65 c65_7 c65_8 c65_9 (by kernel_rfl)
def c65_14_s:=@cond65 c65_14 (.exit 0) 7 .skip (by kernel_rfl) (by kernel_rfl)
def c65_13_s:=@reg65 c65_13 c65_14 2 (rO (cL c65_13)) (fun N M G k e w =>
 M (e 3) fun t4 =>
 M (e 0) fun t5 =>
 N (builtin Builtin.len #[38] 3 ([false]).toArray ([t5]).toArray) w fun t6 w =>
 N (xv (xbin .lss 3 (.tmp 4) (.tmp 6) t4 t6)) w fun t7 w =>
 k (Env.p e 7 t7) w) (by kernel_rfl) (by intros; kernel_rfl)
def c65_6_s:=@seq65 c65_6 c65_7 c65_13 (by kernel_rfl)
def c65_5_s:=@loop65 c65_5 c65_6 (by kernel_rfl)
def c65_4_s:=@block65 c65_4 c65_5 0 (by kernel_rfl)
def c65_3_s:=@reg65 c65_3 c65_4 1 (rO (cL c65_3)) (fun N M G k e w =>
 M (.int .i64 0) fun t3 =>
 k (Env.p e 3 t3) w) (by kernel_rfl) (by intros; kernel_rfl)
def c65_1_s:=@seq65 c65_1 c65_2 c65_3 (by kernel_rfl)
def c65_s:=@reg65 c65 c65_1 0 (rO (cL c65)) (fun N M G k e w =>
 M (.bool false) fun t2 =>
 k (Env.p e 2 t2) w) (by kernel_rfl) (by intros; kernel_rfl)
theorem call65 {a0 : Value} {w : World} {R : Value → World → Prop} (h : W3 Tryz.prog 19 V65 c65 (retQ Tryz.prog [.tmp 2] R) (argE [a0]) w) : CallsN Tryz.prog 65 [a0] w R :=
 callsN_of_W3 (c := c65) (rs := [.tmp 2]) V65 Tryz.ntmps65 (by rw [Tryz.results65]) mixed Tryz.func65 (by kernel_rfl) (by kernel_rfl) (by kernel_rfl) (by kernel_rfl) (by simp) h
def w3t_65:=w3t Tryz.prog 19 V65
def hk65 := aI @c65_2_s <| aI @c65_8_s <| aI @c65_12_s <| aI @c65_11_s <| aI @c65_10_s <| aI @c65_9_s <| aI @c65_7_s <| aI @c65_14_s <| aI @c65_13_s <| aI @c65_6_s <| aI @c65_5_s <| aI @c65_4_s <| aI @c65_3_s <| aI @c65_1_s <| aI @c65_s <| @w3t_65
-- K65: ↓hk65
/-! ### vouch/vouchref13.goodPin -/
def V63 : Nat → Bool := fun i => [0, 1, 2].elem i
def reg63:=@s_reg Tryz.prog 9 V63
noncomputable def c63:Code:=(Tryz.f63.body.getD .skip)
noncomputable def c63_1:=cR c63
def c63_1_s:=@reg63 c63_1 .ret 1 (rO (cL c63_1)) (fun N M G k e w =>
 N (xv (fieldAt 33 (e 1) 0)) w fun t3 w =>
 N (xv (loadAt 2 t3)) w fun t4 w =>
 N (xv (fieldAt 33 (e 1) 1)) w fun t5 w =>
 N (xv (loadAt 2 t5)) w fun t6 w =>
 N (xv (Instr.build 57 ([(0, (.string ⟨#[107]⟩)), (2, t4), (3, t6)]).toArray)) w fun t7 w =>
 N (xcall (.func (.func 92) #[] #[]) [t7]) w fun t8 w =>
 M t8 fun t2 =>
 k (Env.p e 2 t2) w) (by kernel_rfl) (by intros; kernel_rfl)
def c63_s:=@reg63 c63 c63_1 0 (rO (cL c63)) (fun N M G k e w =>
 N (xv (Instr.box 33 (e 0))) w fun t1 w =>
 M (.bool false) fun t2 =>
 k (Env.p (Env.p e 1 t1) 2 t2) w) (by kernel_rfl) (by intros; kernel_rfl)
theorem call63 {a0 : Value} {w : World} {R : Value → World → Prop} (h : W3 Tryz.prog 9 V63 c63 (retQ Tryz.prog [.tmp 2] R) (argE [a0]) w) : CallsN Tryz.prog 63 [a0] w R :=
 callsN_of_W3 (c := c63) (rs := [.tmp 2]) V63 Tryz.ntmps63 (by rw [Tryz.results63]) mixed Tryz.func63 (by kernel_rfl) (by kernel_rfl) (by kernel_rfl) (by kernel_rfl) (by simp) h
def w3t_63:=w3t Tryz.prog 9 V63
def hk63 := aI @c63_1_s <| aI @c63_s <| @w3t_63
-- K63: ↓hk63
/-! ### vouch/vouchref09.Good -/
def V92 : Nat → Bool := fun i => [0, 1, 2, 29].elem i
def cond92:=@s_cond Tryz.prog 38 V92
def reg92:=@s_reg Tryz.prog 38 V92
def seq92:=@s_seq Tryz.prog 38 V92
noncomputable def c92:Code:=(Tryz.f92.body.getD .skip)
noncomputable def c92_1:=cR c92
noncomputable def c92_2:=cR c92_1
noncomputable def c92_3:=cL c92_1
noncomputable def c92_4:=cR c92_3
noncomputable def c92_5:=cL c92_4
def c92_2_s:=@reg92 c92_2 .ret 3 (rO (cL c92_2)) (fun N M G k e w =>
 N (xv (fieldAt 57 (e 1) 3)) w fun t30 w =>
 N (xv (loadAt 2 t30)) w fun t31 w =>
 N (xv (xbin .eql 2 (.tmp 31) (.const (.int .i64 4611686018427387904)) t31 (.int .i64 4611686018427387904))) w fun t32 w =>
 M t32 fun t33 =>
 G (isB t33 false) (fun K => N (xv (fieldAt 57 (e 1) 3)) w K) (fun t34 w =>
 G (isB t33 false) (fun K => N (xv (loadAt 2 t34)) w K) (fun t35 w =>
 G (isB t33 false) (fun K => N (xv (xbin .leq 2 (.tmp 35) (.const (.int .i64 1099511627777)) t35 (.int .i64 1099511627777))) w K) (fun t36 w =>
 N (xpick t33 (.bool true) t36) w fun t37 w =>
 M t37 fun t2 =>
 k (Env.p e 2 t2) w) w) w) w) (by kernel_rfl) (by intros; kernel_rfl)
def c92_5_s:=@reg92 c92_5 .ret 2 (rO (cL c92_5)) (fun N M G k e w =>
 M (.bool false) fun t2 =>
 k (Env.p e 2 t2) w) (by kernel_rfl) (by intros; kernel_rfl)
def c92_4_s:=@cond92 c92_4 .skip 29 c92_5 (by kernel_rfl) (by kernel_rfl)
def c92_3_s:=@reg92 c92_3 c92_4 1 (rO (cL c92_3)) (fun N M G k e w =>
 N (xv (fieldAt 57 (e 1) 0)) w fun t3 w =>
 N (xv (loadAt 9 t3)) w fun t4 w =>
 N (xcall (.func (.func 41) #[] #[]) [t4]) w fun t5 w =>
 N (xv (Op.unary .not t5)) w fun t6 w =>
 M t6 fun t7 =>
 G (isB t7 false) (fun K => N (xv (fieldAt 57 (e 1) 1)) w K) (fun t8 w =>
 G (isB t7 false) (fun K => N (xv (loadAt 35 t8)) w K) (fun t9 w =>
 G (isB t7 false) (fun K => N (xcall (.func (.func 64) #[] #[]) [t9]) w K) (fun t10 w =>
 G (isB t7 false) (fun K => N (xv (Op.unary .not t10)) w K) (fun t11 w =>
 N (xpick t7 (.bool true) t11) w fun t12 w =>
 M t12 fun t13 =>
 G (isB t13 false) (fun K => N (xv (fieldAt 57 (e 1) 2)) w K) (fun t14 w =>
 G (isB t13 false) (fun K => N (xv (loadAt 2 t14)) w K) (fun t15 w =>
 G (isB t13 false) (fun K => N (xv (xbin .lss 2 (.tmp 15) (.const (.int .i64 0)) t15 (.int .i64 0))) w K) (fun t16 w =>
 N (xpick t13 (.bool true) t16) w fun t17 w =>
 M t17 fun t18 =>
 G (isB t18 false) (fun K => N (xv (fieldAt 57 (e 1) 2)) w K) (fun t19 w =>
 G (isB t18 false) (fun K => N (xv (loadAt 2 t19)) w K) (fun t20 w =>
 G (isB t18 false) (fun K => N (xv (xbin .gtr 2 (.tmp 20) (.const (.int .i64 1099511627776)) t20 (.int .i64 1099511627776))) w K) (fun t21 w =>
 N (xpick t18 (.bool true) t21) w fun t22 w =>
 M t22 fun t23 =>
 G (isB t23 false) (fun K => N (xv (fieldAt 57 (e 1) 3)) w K) (fun t24 w =>
 G (isB t23 false) (fun K => N (xv (loadAt 2 t24)) w K) (fun t25 w =>
 G (isB t23 false) (fun K => N (xv (fieldAt 57 (e 1) 2)) w K) (fun t26 w =>
 G (isB t23 false) (fun K => N (xv (loadAt 2 t26)) w K) (fun t27 w =>
 G (isB t23 false) (fun K => N (xv (xbin .leq 2 (.tmp 25) (.tmp 27) t25 t27)) w K) (fun t28 w =>
 N (xpick t23 (.bool true) t28) w fun t29 w =>
 k (Env.p e 29 t29) w) w) w) w) w) w) w) w) w) w) w) w) w) w) w) w) (by kernel_rfl) (by intros; kernel_rfl)
def c92_1_s:=@seq92 c92_1 c92_2 c92_3 (by kernel_rfl)
def c92_s:=@reg92 c92 c92_1 0 (rO (cL c92)) (fun N M G k e w =>
 N (xv (Instr.box 57 (e 0))) w fun t1 w =>
 M (.bool false) fun t2 =>
 k (Env.p (Env.p e 1 t1) 2 t2) w) (by kernel_rfl) (by intros; kernel_rfl)
theorem call92 {a0 : Value} {w : World} {R : Value → World → Prop} (h : W3 Tryz.prog 38 V92 c92 (retQ Tryz.prog [.tmp 2] R) (argE [a0]) w) : CallsN Tryz.prog 92 [a0] w R :=
 callsN_of_W3 (c := c92) (rs := [.tmp 2]) V92 Tryz.ntmps92 (by rw [Tryz.results92]) mixed Tryz.func92 (by kernel_rfl) (by kernel_rfl) (by kernel_rfl) (by kernel_rfl) (by simp) h
def w3t_92:=w3t Tryz.prog 38 V92
def hk92 := aI @c92_2_s <| aI @c92_5_s <| aI @c92_4_s <| aI @c92_3_s <| aI @c92_1_s <| aI @c92_s <| @w3t_92
-- K92: ↓hk92
end
end Go.Proofs.YtgloomahpjpiiaaGreat
