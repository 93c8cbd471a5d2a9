/- The equations of the code of some functions, written by the printer gen3.py: each is checked by the kernel. -/
import Derived.Test.YtomlgkecckffeaaGreatCI
set_option linter.unusedVariables false
set_option linter.unusedSimpArgs false
set_option maxRecDepth 100000
namespace Go.Proofs.YtomlgkecckffeaaGreat
open Go.VW
open Go.Instr (loadAt storeAt fieldAt indexAt)
noncomputable section
set_option linter.defProp false
variable {N : NT} {T : T3T} {M : MT} {G : GT} {H : HT} {Y : YT} {k : KT} {Q : Exit → Env → World → Prop} {e el eg : Env} {w u0 u1 u2 u3 u4 u5 u6 u7 u8 u9 : World}
/-! ### vouch/vouchlaw12.NodeAnswers -/
def V4 : Nat → Bool := fun i => [0, 1, 2, 3, 4, 7, 8, 9, 10, 11, 12, 13, 14, 15, 16, 17, 18, 19, 20, 22, 26, 30, 40, 60, 72, 91, 102, 133].elem i
def block4:=@s_block Tryz.prog 154 V4
def cond4:=@s_cond Tryz.prog 154 V4
def drw4:=@s_drw Tryz.prog 154 V4
def loop4:=@s_loop Tryz.prog 154 V4
def reg4:=@s_reg Tryz.prog 154 V4
def rend4:=@s_rend Tryz.prog 154 V4
def seq4:=@s_seq Tryz.prog 154 V4
noncomputable def c4:Code:=(Tryz.f4.body.getD .skip)
noncomputable def c4_1:=cR c4
noncomputable def c4_2:=cR c4_1
noncomputable def c4_3:=cR c4_2
noncomputable def c4_4:=cR c4_3
noncomputable def c4_5:=cR c4_4
noncomputable def c4_6:=cR c4_5
noncomputable def c4_7:=cR c4_6
noncomputable def c4_8:=cR c4_7
noncomputable def c4_9:=cR c4_8
noncomputable def c4_10:=cR c4_9
noncomputable def c4_11:=cR c4_10
noncomputable def c4_12:=cR c4_11
noncomputable def c4_13:=cL c4_11
noncomputable def c4_14:=cR c4_13
noncomputable def c4_15:=cL c4_14
noncomputable def c4_16:=cL c4_9
noncomputable def c4_17:=cR c4_16
noncomputable def c4_18:=cL c4_17
noncomputable def b4_26:List Row:=[(0, 0, 524288, 104, true), (1, 1, 10141204801825835211973625643008, 105, true), (2, 3, 20282409603651670423947251286016, 106, true), (4, 7, 40564819207303340847894502703104, 107, true), (4, 7, 40564819207303340847894502572032, 108, true), (28, 31, 283953734451123385935261518004224, 109, true), (36, 63, 365083372865730067631050523148288, 110, true), (68, 127, 649037107316853453566312041152512, 111, true), (128, 255, 1298074214633706907132624082567168, 112, true), (128, 255, 1298074214633706907132624082305024, 113, true), (896, 1023, 9086519502435948349928368576135168, 114, true), (1152, 2047, 11682667931703362164193616740745216, 115, true), (2176, 4095, 20769187434139310514121985316880384, 116, true), (4096, 8191, 41538374868278621028243970633761280, 117, true), (12288, 16383, 124615124604835863084731911901282304, 118, false), (20480, 32767, 207691874341393105141219853168803840, 119, true), (36864, 65535, 373845373814507589254195735703846912, 120, true), (4096, 8191, 41538374868278621028243970633764864, 121, true), (135168, 139263, 1370766370653194493932051030914105344, 122, true), (266240, 401407, 2699994366438110366835858091194449920, 123, true), (593920, 1048575, 6023064355900400049095375741895311360, 124, true), (1052672, 2097151, 10675362341147605604258700452876517376, 125, true), (4194303, 4194303, 21267647932558653966460912964485513216, 9, true)]
noncomputable def c4_19:=cL c4_7
noncomputable def c4_20:=cR c4_19
noncomputable def c4_21:=cL c4_20
noncomputable def c4_22:=cL c4_21
noncomputable def c4_23:=cR c4_22
noncomputable def c4_24:=cR c4_23
noncomputable def c4_25:=cL c4_23
noncomputable def c4_26:=cL c4_25
noncomputable def c4_27:=cR c4_26
noncomputable def c4_28:=cR c4_27
noncomputable def c4_29:=cR c4_28
noncomputable def c4_30:=cR c4_29
noncomputable def c4_31:=cL c4_30
noncomputable def c4_32:=cL c4_28
noncomputable def c4_33:=cR c4_32
noncomputable def c4_34:=cL c4_33
noncomputable def c4_35:=cL c4_22
noncomputable def c4_36:=cR c4_35
noncomputable def c4_37:=cL c4_4
noncomputable def c4_38:=cR c4_37
noncomputable def c4_39:=cL c4_38
noncomputable def c4_40:=cL c4_39
noncomputable def c4_41:=cR c4_40
noncomputable def c4_42:=cR c4_41
noncomputable def c4_43:=cL c4_41
noncomputable def c4_44:=cL c4_43
noncomputable def c4_45:=cR c4_44
noncomputable def c4_46:=cR c4_45
noncomputable def c4_47:=cL c4_46
noncomputable def c4_48:=cR c4_46
noncomputable def c4_49:=cL c4_40
noncomputable def c4_50:=cR c4_49
noncomputable def c4_51:=cL c4_3
noncomputable def c4_52:=cR c4_51
noncomputable def c4_53:=cL c4_52
noncomputable def c4_54:=cL c4_1
noncomputable def c4_55:=cR c4_54
noncomputable def c4_56:=cL c4_55
def c4_12_s:=reg4 c4_12 .ret (fun N M G k e w =>
 M (e 19) fun t138 =>
 M t138 fun t139 =>
 G (isB t139 true) (fun K => N (xv (loadAt 31 (e 17))) w K) (fun t140 w =>
 G (isB t139 true) (fun K => N (xv (fieldAt 34 (e 20) 1)) w K) (fun t141 w =>
 G (isB t139 true) (fun K => N (xv (loadAt 31 t141)) w K) (fun t142 w =>
 G (isB t139 true) (fun K => N (xv (xbin .eql 31 (.tmp 140) (.tmp 142) t140 t142)) w K) (fun t143 w =>
 N (xpick t139 t143 (.bool false)) w fun t144 w =>
 M t144 fun t145 =>
 G (isB t145 true) (fun K => N (xv (loadAt 48 (e 18))) w K) (fun t146 w =>
 G (isB t145 true) (fun K => N (xv (fieldAt 34 (e 20) 2)) w K) (fun t147 w =>
 G (isB t145 true) (fun K => N (xv (loadAt 2 t147)) w K) (fun t148 w =>
 G (isB t145 true) (fun K => N (xv (fieldAt 34 (e 20) 3)) w K) (fun t149 w =>
 G (isB t145 true) (fun K => N (xv (loadAt 2 t149)) w K) (fun t150 w =>
 G (isB t145 true) (fun K => N (xv (Instr.build 48 ([(0, t148), (1, t150)]).toArray)) w K) (fun t151 w =>
 G (isB t145 true) (fun K => N (xv (xbin .eql 48 (.tmp 146) (.tmp 151) t146 t151)) w K) (fun t152 w =>
 N (xpick t145 t152 (.bool false)) w fun t153 w =>
 M t153 fun t8 =>
 k (Env.p e 8 t8) w) w) w) w) w) w) w) w) w) w) w) w)
def c4_15_s:=rend4 c4_15 (fun N M G k e w =>
 N (xv (fieldAt 43 (e 12) 3)) w fun t134 w =>
 N (xv (loadAt 2 t134)) w fun t135 w =>
 N (xv (xbin .add 2 (.tmp 135) (.const (.int .i64 1)) t135 (.int .i64 1))) w fun t136 w =>
 N (xv (fieldAt 34 (e 20) 3)) w fun t137 w =>
 N (xu (storeAt 2 t137 t136)) w fun _ w =>
 k e w)
def c4_14_s:=cond4 c4_14 .skip 133 c4_15
def c4_13_s:=reg4 c4_13 c4_14 (fun N M G k e w =>
 N (xv (fieldAt 34 (e 20) 3)) w fun t131 w =>
 N (xv (loadAt 2 t131)) w fun t132 w =>
 N (xv (xbin .eql 2 (.tmp 132) (.const (.int .i64 4611686018427387904)) t132 (.int .i64 4611686018427387904))) w fun t133 w =>
 k (Env.p e 133 t133) w)
def c4_11_s:=seq4 c4_11 c4_12 c4_13
def c4_10_s:=reg4 c4_10 c4_11 (fun N M G k e w =>
 N (xv (fieldAt 43 (e 12) 7)) w fun t125 w =>
 N (xv (loadAt 41 t125)) w fun t126 w =>
 M (e 13) fun t127 =>
 N (xv (indexAt 41 t126 t127)) w fun t128 w =>
 N (xv (fieldAt 52 t128 0)) w fun t129 w =>
 N (xv (loadAt 34 t129)) w fun t130 w =>
 N (xv (Instr.alloc 34 true (.tuple #[]))) w fun t20 w =>
 N (xu (storeAt 34 t20 t130)) w fun _ w =>
 k (Env.p e 20 t20) w)
def c4_18_s:=drw4 c4_18 .ret b4_26 23 (fun N T M G H Y k e w =>
 M (e 19) fun t103 =>
 T (FrX none w) (xv (Op.unary .not t103)) fun t104 =>
 M t104 fun t105 =>
 H (isB t105 true) (fun K => T (FrX (some []) w) (xv (loadAt 31 (e 17))) K) (fun t106 =>
 H (isB t105 true) (fun K => T (FrX none w) (xv (Instr.build 31 ([]).toArray)) K) (fun t107 =>
 H (isB t105 true) (fun K => T (FrX none w) (xv (xbin .eql 31 (.tmp 106) (.tmp 107) t106 t107)) K) (fun t108 =>
 T (FrX none w) (xpick t105 t108 (.bool false)) fun t109 =>
 M t109 fun t110 =>
 H (isB t110 true) (fun K => T (FrX (some []) w) (xv (loadAt 48 (e 18))) K) (fun t111 =>
 H (isB t110 true) (fun K => T (FrX none w) (xv (Instr.build 48 ([]).toArray)) K) (fun t112 =>
 H (isB t110 true) (fun K => T (FrX none w) (xv (xbin .eql 48 (.tmp 111) (.tmp 112) t111 t112)) K) (fun t113 =>
 T (FrX none w) (xpick t110 t113 (.bool false)) fun t114 =>
 M t114 fun t115 =>
 H (isB t115 true) (fun K => M (e 9) K) (fun t116 =>
 H (isB t115 true) (fun K => T (FrX none w) (xv (fieldAt 43 (e 12) 7)) K) (fun t120 =>
 H (isB t115 true) (fun K => T (FrX (some []) w) (xv (loadAt 41 t120)) K) (fun t121 =>
 H (isB t115 true) (fun K => T (FrX (some []) w) (builtin Builtin.len #[41] 3 ([false]).toArray ([t121]).toArray) K) (fun t122 =>
 G (isB t115 true) (fun K => N (xcall (.func (.func 23) #[] #[]) [t116]) w K) (fun t117 w14 =>
 Y (isB t115 true) (builtin Builtin.len #[41] 3 ([false]).toArray ([t121]).toArray) t122 w w14 ∧ (Y (isB t115 true) (xv (loadAt 41 t120)) t121 w w14 ∧ (H (isB t115 true) (fun K => T (FrX none w14) (xv (Instr.field 43 t117 7)) K) (fun t118 =>
 H (isB t115 true) (fun K => T (FrX (some []) w14) (builtin Builtin.len #[41] 3 ([false]).toArray ([t118]).toArray) K) (fun t119 =>
 H (isB t115 true) (fun K => T (FrX none w14) (xv (xbin .eql 3 (.tmp 119) (.tmp 122) t119 t122)) K) (fun t123 =>
 T (FrX none w14) (xpick t115 t123 (.bool false)) fun t124 =>
 M t124 fun t8 =>
 k (Env.p e 8 t8) w14)))))) w)))))))))))
def c4_17_s:=cond4 c4_17 .skip 102 c4_18
def c4_16_s:=reg4 c4_16 c4_17 (fun N M G k e w =>
 M (e 13) fun t101 =>
 N (xv (xbin .lss 3 (.tmp 101) (.const (.int .i64 0)) t101 (.int .i64 0))) w fun t102 w =>
 k (Env.p e 102 t102) w)
def c4_9_s:=seq4 c4_9 c4_10 c4_16
def c4_8_s:=reg4 c4_8 c4_9 (fun N M G k e w =>
 M (e 9) fun t94 =>
 M (e 2) fun t95 =>
 N (xv (loadAt 48 (e 7))) w fun t96 w =>
 N (xcall (.func (.func 25) #[] #[]) [t94, t95, t96]) w fun t97 w =>
 M t97 fun t93 =>
 N (xv (Instr.extract t93 0)) w fun t98 w =>
 N (xv (Instr.extract t93 1)) w fun t99 w =>
 N (xv (Instr.extract t93 2)) w fun t100 w =>
 N (xv (Instr.alloc 31 true (.tuple #[]))) w fun t17 w =>
 N (xv (Instr.alloc 48 true (.tuple #[]))) w fun t18 w =>
 N (xu (storeAt 31 t17 t98)) w fun _ w =>
 N (xu (storeAt 48 t18 t99)) w fun _ w =>
 M t100 fun t19 =>
 k (Env.p (Env.p (Env.p e 17 t17) 18 t18) 19 t19) w)
def c4_24_s:=rend4 c4_24 (fun N M G k e w =>
 M (e 14) fun t61 =>
 N (xv (xbin .add 3 (.tmp 61) (.const (.int .i64 1)) t61 (.int .i64 1))) w fun t62 w =>
 M t62 fun t14 =>
 k (Env.p e 14 t14) w)
def c4_31_s:=rend4 c4_31 (fun N M G k e w =>
 M (e 14) fun t92 =>
 M t92 fun t13 =>
 k (Env.p e 13 t13) w)
def c4_30_s:=cond4 c4_30 .skip 91 c4_31
def c4_29_s:=reg4 c4_29 c4_30 (fun N M G k e w =>
 N (xv (fieldAt 34 (e 15) 0)) w fun t76 w =>
 N (xv (loadAt 9 t76)) w fun t77 w =>
 M (e 2) fun t78 =>
 N (xv (xbin .eql 9 (.tmp 77) (.tmp 78) t77 t78)) w fun t79 w =>
 M t79 fun t80 =>
 G (isB t80 true) (fun K => N (xv (fieldAt 34 (e 15) 2)) w K) (fun t81 w =>
 G (isB t80 true) (fun K => N (xv (loadAt 2 t81)) w K) (fun t82 w =>
 G (isB t80 true) (fun K => N (xv (fieldAt 48 (e 7) 0)) w K) (fun t83 w =>
 G (isB t80 true) (fun K => N (xv (loadAt 2 t83)) w K) (fun t84 w =>
 G (isB t80 true) (fun K => N (builtin Builtin.max #[2, 2] 2 ([false, false]).toArray ([t82, t84]).toArray) w K) (fun t85 w =>
 G (isB t80 true) (fun K => M (e 16) fun v => K v w) (fun t86 w =>
 G (isB t80 true) (fun K => N (xv (fieldAt 48 (e 7) 1)) w K) (fun t87 w =>
 G (isB t80 true) (fun K => N (xv (loadAt 2 t87)) w K) (fun t88 w =>
 G (isB t80 true) (fun K => N (builtin Builtin.min #[2, 2] 2 ([false, false]).toArray ([t86, t88]).toArray) w K) (fun t89 w =>
 G (isB t80 true) (fun K => N (xv (xbin .lss 2 (.tmp 85) (.tmp 89) t85 t89)) w K) (fun t90 w =>
 N (xpick t80 t90 (.bool false)) w fun t91 w =>
 k (Env.p e 91 t91) w) w) w) w) w) w) w) w) w) w) w)
def c4_34_s:=rend4 c4_34 (fun N M G k e w =>
 N (xv (fieldAt 43 (e 12) 3)) w fun t73 w =>
 N (xv (loadAt 2 t73)) w fun t74 w =>
 N (xv (xbin .add 2 (.tmp 74) (.const (.int .i64 1)) t74 (.int .i64 1))) w fun t75 w =>
 M t75 fun t16 =>
 k (Env.p e 16 t16) w)
def c4_33_s:=cond4 c4_33 .skip 72 c4_34
def c4_32_s:=reg4 c4_32 c4_33 (fun N M G k e w =>
 M (e 16) fun t71 =>
 N (xv (xbin .eql 2 (.tmp 71) (.const (.int .i64 4611686018427387904)) t71 (.int .i64 4611686018427387904))) w fun t72 w =>
 k (Env.p e 72 t72) w)
def c4_28_s:=seq4 c4_28 c4_29 c4_32
def c4_27_s:=reg4 c4_27 c4_28 (fun N M G k e w =>
 N (xv (fieldAt 34 (e 15) 3)) w fun t69 w =>
 N (xv (loadAt 2 t69)) w fun t70 w =>
 M t70 fun t16 =>
 k (Env.p e 16 t16) w)
def c4_26_s:=reg4 c4_26 c4_27 (fun N M G k e w =>
 N (xv (fieldAt 43 (e 12) 7)) w fun t63 w =>
 N (xv (loadAt 41 t63)) w fun t64 w =>
 M (e 14) fun t65 =>
 N (xv (indexAt 41 t64 t65)) w fun t66 w =>
 N (xv (fieldAt 52 t66 0)) w fun t67 w =>
 N (xv (loadAt 34 t67)) w fun t68 w =>
 N (xv (Instr.alloc 34 true (.tuple #[]))) w fun t15 w =>
 N (xu (storeAt 34 t15 t68)) w fun _ w =>
 k (Env.p e 15 t15) w)
def c4_25_s:=block4 c4_25 c4_26 3
def c4_23_s:=seq4 c4_23 c4_24 c4_25
def c4_36_s:=cond4 c4_36 (.exit 2) 60 .skip
def c4_35_s:=reg4 c4_35 c4_36 (fun N M G k e w =>
 M (e 14) fun t56 =>
 N (xv (fieldAt 43 (e 12) 7)) w fun t57 w =>
 N (xv (loadAt 41 t57)) w fun t58 w =>
 N (builtin Builtin.len #[41] 3 ([false]).toArray ([t58]).toArray) w fun t59 w =>
 N (xv (xbin .lss 3 (.tmp 56) (.tmp 59) t56 t59)) w fun t60 w =>
 k (Env.p e 60 t60) w)
def c4_22_s:=seq4 c4_22 c4_23 c4_35
def c4_21_s:=loop4 c4_21 c4_22
def c4_20_s:=block4 c4_20 c4_21 2
def c4_19_s:=reg4 c4_19 c4_20 (fun N M G k e w =>
 M (.int .i64 0) fun t14 =>
 k (Env.p e 14 t14) w)
def c4_7_s:=seq4 c4_7 c4_8 c4_19
def c4_6_s:=reg4 c4_6 c4_7 (fun N M G k e w =>
 M (.int .i64 (-1)) fun t13 =>
 k (Env.p e 13 t13) w)
def c4_5_s:=reg4 c4_5 c4_6 (fun N M G k e w =>
 M (e 9) fun t54 =>
 N (xcall (.func (.func 23) #[] #[]) [t54]) w fun t55 w =>
 N (xv (Instr.alloc 43 true (.tuple #[]))) w fun t12 w =>
 N (xu (storeAt 43 t12 t55)) w fun _ w =>
 k (Env.p e 12 t12) w)
def c4_42_s:=rend4 c4_42 (fun N M G k e w =>
 M (e 10) fun t31 =>
 N (xv (xbin .add 3 (.tmp 31) (.const (.int .i64 1)) t31 (.int .i64 1))) w fun t32 w =>
 M t32 fun t10 =>
 k (Env.p e 10 t10) w)
def c4_47_s:=rend4 c4_47 (fun N M G k e w =>
 M (e 9) fun t41 =>
 N (xv (fieldAt 50 (e 11) 3)) w fun t42 w =>
 N (xv (loadAt 34 t42)) w fun t43 w =>
 N (xv (fieldAt 50 (e 11) 4)) w fun t44 w =>
 N (xv (loadAt 2 t44)) w fun t45 w =>
 N (xcall (.func (.func 18) #[] #[]) [t41, t43, t45]) w fun t46 w =>
 k e w)
def c4_48_s:=rend4 c4_48 (fun N M G k e w =>
 M (e 9) fun t47 =>
 N (xv (fieldAt 50 (e 11) 4)) w fun t48 w =>
 N (xv (loadAt 2 t48)) w fun t49 w =>
 N (xv (fieldAt 50 (e 11) 5)) w fun t50 w =>
 N (xv (loadAt 22 t50)) w fun t51 w =>
 N (xv (Instr.build 38 ([(0, t49), (1, t51)]).toArray)) w fun t52 w =>
 N (xcall (.func (.func 20) #[] #[]) [t47, t52]) w fun t53 w =>
 k e w)
def c4_46_s:=cond4 c4_46 c4_48 40 c4_47
def c4_45_s:=reg4 c4_45 c4_46 (fun N M G k e w =>
 N (xv (fieldAt 50 (e 11) 0)) w fun t37 w =>
 N (xv (loadAt 5 t37)) w fun t38 w =>
 N (xv (xbin .rem 5 (.tmp 38) (.const (.int .u8 2)) t38 (.int .u8 2))) w fun t39 w =>
 N (xv (xbin .eql 5 (.tmp 39) (.const (.int .u8 0)) t39 (.int .u8 0))) w fun t40 w =>
 k (Env.p e 40 t40) w)
def c4_44_s:=reg4 c4_44 c4_45 (fun N M G k e w =>
 M (e 1) fun t33 =>
 M (e 10) fun t34 =>
 N (xv (indexAt 46 t33 t34)) w fun t35 w =>
 N (xv (loadAt 50 t35)) w fun t36 w =>
 N (xv (Instr.alloc 50 true (.tuple #[]))) w fun t11 w =>
 N (xu (storeAt 50 t11 t36)) w fun _ w =>
 k (Env.p e 11 t11) w)
def c4_43_s:=block4 c4_43 c4_44 1
def c4_41_s:=seq4 c4_41 c4_42 c4_43
def c4_50_s:=cond4 c4_50 (.exit 0) 30 .skip
def c4_49_s:=reg4 c4_49 c4_50 (fun N M G k e w =>
 M (e 10) fun t27 =>
 M (e 1) fun t28 =>
 N (builtin Builtin.len #[46] 3 ([false]).toArray ([t28]).toArray) w fun t29 w =>
 N (xv (xbin .lss 3 (.tmp 27) (.tmp 29) t27 t29)) w fun t30 w =>
 k (Env.p e 30 t30) w)
def c4_40_s:=seq4 c4_40 c4_41 c4_49
def c4_39_s:=loop4 c4_39 c4_40
def c4_38_s:=block4 c4_38 c4_39 0
def c4_37_s:=reg4 c4_37 c4_38 (fun N M G k e w =>
 M (.int .i64 0) fun t10 =>
 k (Env.p e 10 t10) w)
def c4_4_s:=seq4 c4_4 c4_5 c4_37
def c4_53_s:=reg4 c4_53 .ret (fun N M G k e w =>
 M (.bool false) fun t8 =>
 k (Env.p e 8 t8) w)
def c4_52_s:=cond4 c4_52 .skip 26 c4_53
def c4_51_s:=reg4 c4_51 c4_52 (fun N M G k e w =>
 M (e 9) fun t25 =>
 N (xv (xbin .eql 26 (.tmp 25) (.const (.pointer none)) t25 (.pointer none))) w fun t26 w =>
 k (Env.p e 26 t26) w)
def c4_3_s:=seq4 c4_3 c4_4 c4_51
def c4_2_s:=reg4 c4_2 c4_3 (fun N M G k e w =>
 N (xv (loadAt 25 (e 4))) w fun t23 w =>
 N (xcall (.func (.func 15) #[] #[]) [t23]) w fun t24 w =>
 M t24 fun t9 =>
 k (Env.p e 9 t9) w)
def c4_56_s:=reg4 c4_56 .ret (fun N M G k e w =>
 M (.bool false) fun t8 =>
 k (Env.p e 8 t8) w)
def c4_55_s:=cond4 c4_55 .skip 22 c4_56
def c4_54_s:=reg4 c4_54 c4_55 (fun N M G k e w =>
 N (xcall (.func (.func 14) #[] #[]) []) w fun t21 w =>
 N (xv (Op.unary .not t21)) w fun t22 w =>
 k (Env.p e 22 t22) w)
def c4_1_s:=seq4 c4_1 c4_2 c4_54
def c4_s:=reg4 c4 c4_1 (fun N M G k e w =>
 N (xv (Instr.box 25 (e 0))) w fun t4 w =>
 N (xv (Instr.box 48 (e 3))) w fun t7 w =>
 M (.bool false) fun t8 =>
 k (Env.p (Env.p (Env.p e 4 t4) 7 t7) 8 t8) w)
theorem call4 {a0 a1 a2 a3 : Value} {w : World} {R : Value → World → Prop} (h : W3 Tryz.prog 154 V4 c4 (retQ Tryz.prog [.tmp 8] R) (argE [a0, a1, a2, a3]) w) : CallsN Tryz.prog 4 [a0, a1, a2, a3] w R :=
 callsN_of_W3 (c := c4) (rs := [.tmp 8]) V4 Tryz.ntmps4 (by rw [Tryz.results4]) mixed Tryz.func4 (by kernel_rfl) (by kernel_rfl) (by kernel_rfl) (by kernel_rfl) (by simp) h
def w3t_4:=w3t Tryz.prog 154 V4
def hk4 := aI @c4_12_s <| aI @c4_15_s <| aI @c4_14_s <| aI @c4_13_s <| aI @c4_11_s <| aI @c4_10_s <| aI @c4_18_s <| aI @c4_17_s <| aI @c4_16_s <| aI @c4_9_s <| aI @c4_8_s <| aI @c4_24_s <| aI @c4_31_s <| aI @c4_30_s <| aI @c4_29_s <| aI @c4_34_s <| aI @c4_33_s <| aI @c4_32_s <| aI @c4_28_s <| aI @c4_27_s <| aI @c4_26_s <| aI @c4_25_s <| aI @c4_23_s <| aI @c4_36_s <| aI @c4_35_s <| aI @c4_22_s <| aI @c4_21_s <| aI @c4_20_s <| aI @c4_19_s <| aI @c4_7_s <| aI @c4_6_s <| aI @c4_5_s <| aI @c4_42_s <| aI @c4_47_s <| aI @c4_48_s <| aI @c4_46_s <| aI @c4_45_s <| aI @c4_44_s <| aI @c4_43_s <| aI @c4_41_s <| aI @c4_50_s <| aI @c4_49_s <| aI @c4_40_s <| aI @c4_39_s <| aI @c4_38_s <| aI @c4_37_s <| aI @c4_4_s <| aI @c4_53_s <| aI @c4_52_s <| aI @c4_51_s <| aI @c4_3_s <| aI @c4_2_s <| aI @c4_56_s <| aI @c4_55_s <| aI @c4_54_s <| aI @c4_1_s <| aI @c4_s <| @w3t_4
-- K4: ↓hk4
/-! ### vouch/vouchlaw12.NodeBounds -/
noncomputable def c6:Code:=(Tryz.f6.body.getD .skip)
-- K6: ↓hk6
/-! ### vouch/vouchlaw12.NodeSqueezes -/
noncomputable def c7:Code:=(Tryz.f7.body.getD .skip)
-- K7: ↓hk7
/-! ### vouch/vouchlaw12.NodeOver -/
-- K11: ↓hk11
/-! ### vouch/vouchlaw12.taken -/
def V35 : Nat → Bool := fun i => [0, 1, 4, 5, 9, 17].elem i
noncomputable def c35:Code:=(Tryz.f35.body.getD .skip)
theorem call35 {a0 a1 : Value} {w : World} {R : Value → World → Prop} (h : W3 Tryz.prog 18 V35 c35 (retQ Tryz.prog [.tmp 4] R) (argE [a0, a1]) w) : CallsN Tryz.prog 35 [a0, a1] w R :=
 callsN_of_W3 (c := c35) (rs := [.tmp 4]) V35 Tryz.ntmps35 (by rw [Tryz.results35]) mixed Tryz.func35 (by kernel_rfl) (by kernel_rfl) (by kernel_rfl) (by kernel_rfl) (by simp) h
-- K35: ↓hk35
/-! ### vouch/vouchlaw12.kept -/
def V36 : Nat → Bool := fun i => [0, 1, 3, 4, 5, 6, 7, 8, 13, 25, 54].elem i
noncomputable def c36:Code:=(Tryz.f36.body.getD .skip)
theorem call36 {a0 a1 : Value} {w : World} {R : Value → World → Prop} (h : W3 Tryz.prog 55 V36 c36 (retQ Tryz.prog [.tmp 4] R) (argE [a0, a1]) w) : CallsN Tryz.prog 36 [a0, a1] w R :=
 callsN_of_W3 (c := c36) (rs := [.tmp 4]) V36 Tryz.ntmps36 (by rw [Tryz.results36]) mixed Tryz.func36 (by kernel_rfl) (by kernel_rfl) (by kernel_rfl) (by kernel_rfl) (by simp) h
-- K36: ↓hk36
/-! ### vouch/policy.Order -/
def V28 : Nat → Bool := fun i => [0, 2].elem i
noncomputable def c28:Code:=(Tryz.f28.body.getD .skip)
theorem call28 {a0 : Value} {w : World} {R : Value → World → Prop} (h : W3 Tryz.prog 5 V28 c28 (retQ Tryz.prog [.tmp 2] R) (argE [a0]) w) : CallsN Tryz.prog 28 [a0] w R :=
 callsN_of_W3 (c := c28) (rs := [.tmp 2]) V28 Tryz.ntmps28 (by rw [Tryz.results28]) mixed Tryz.func28 (by kernel_rfl) (by kernel_rfl) (by kernel_rfl) (by kernel_rfl) (by simp) h
-- K28: ↓hk28
end
end Go.Proofs.YtomlgkecckffeaaGreat
