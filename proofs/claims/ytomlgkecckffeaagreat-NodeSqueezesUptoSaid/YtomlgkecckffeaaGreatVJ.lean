/- The equations of the code of some functions, written by the printer gen3.py: each is checked by the kernel. -/
import Derived.Test.YtomlgkecckffeaaGreatCI
set_option linter.unusedVariables false
set_option linter.unusedSimpArgs false
set_option maxRecDepth 100000
namespace Go.Proofs.YtomlgkecckffeaaGreat
open Go.VW
open Go.Instr (loadAt storeAt fieldAt indexAt)
noncomputable section
set_option linter.defProp false
variable {N : NT} {T : T3T} {M : MT} {G : GT} {H : HT} {Y : YT} {k : KT} {Q : Exit → Env → World → Prop} {e el eg : Env} {w u0 u1 u2 u3 u4 u5 u6 u7 u8 u9 : World}
/-! ### vouch/vouchlaw12.NodeAnswers -/
noncomputable def c4:Code:=(Tryz.f4.body.getD .skip)
-- K4: ↓hk4
/-! ### vouch/vouchlaw12.NodeBounds -/
noncomputable def c6:Code:=(Tryz.f6.body.getD .skip)
-- K6: ↓hk6
/-! ### vouch/vouchlaw12.NodeSqueezes -/
def V7 : Nat → Bool := fun i => [0, 1, 2, 4, 5, 6, 7, 8, 9, 10, 11, 12, 13, 14, 15, 17, 21, 25, 34, 35, 43, 51, 70, 74, 112].elem i
def block7:=@s_block Tryz.prog 154 V7
def cond7:=@s_cond Tryz.prog 154 V7
def drw7:=@s_drw Tryz.prog 154 V7
def loop7:=@s_loop Tryz.prog 154 V7
def reg7:=@s_reg Tryz.prog 154 V7
def rend7:=@s_rend Tryz.prog 154 V7
def seq7:=@s_seq Tryz.prog 154 V7
noncomputable def c7:Code:=(Tryz.f7.body.getD .skip)
noncomputable def c7_1:=cR c7
noncomputable def c7_2:=cR c7_1
noncomputable def c7_3:=cR c7_2
noncomputable def c7_4:=cR c7_3
noncomputable def c7_5:=cR c7_4
noncomputable def c7_6:=cR c7_5
noncomputable def c7_7:=cR c7_6
noncomputable def c7_8:=cR c7_7
noncomputable def c7_9:=cR c7_8
noncomputable def c7_10:=cR c7_9
noncomputable def c7_11:=cR c7_10
noncomputable def c7_12:=cL c7_8
noncomputable def c7_13:=cR c7_12
noncomputable def c7_14:=cL c7_13
noncomputable def c7_15:=cL c7_14
noncomputable def c7_16:=cR c7_15
noncomputable def c7_17:=cR c7_16
noncomputable def c7_18:=cL c7_16
noncomputable def c7_19:=cL c7_18
noncomputable def c7_20:=cR c7_19
noncomputable def b7_25:List Row:=[(0, 0, 4096, 83, true), (1, 1, 4835703278458516698824704, 84, true), (2, 3, 9671406556917033397649408, 85, true), (4, 7, 19342813113834066795299328, 86, true), (4, 7, 19342813113834066795299840, 87, true), (28, 31, 135399691796838467567091712, 88, true), (36, 63, 174085318024506601157689344, 89, true), (68, 127, 328827822935179135520079872, 90, true), (132, 255, 638312832756524204244860928, 91, true), (260, 511, 1237940039285380274899124224, 92, true), (512, 1023, 2475880078570760549798248960, 93, true), (512, 1023, 2475880078570760549798249472, 94, true), (3584, 4095, 17331160549995323848587739136, 95, true), (4608, 8191, 22282920707136844948184236032, 96, true), (512, 1023, 2475880078570760549798248704, 97, true), (16896, 17407, 81704042592835098143342198784, 98, true), (33280, 50175, 160932205107099435736886149120, 99, true), (74240, 131071, 359002611392760279720746024960, 100, true), (131584, 262143, 636301180192685461298149851136, 101, true), (262656, 524287, 1267650600228229401496703205376, 102, true), (524288, 1048575, 2535301200456458802993406412800, 103, true), (524288, 1048575, 2535301200456458802993406411008, 104, true), (2621440, 3145727, 12676506002282294014967032053760, 105, true), (524288, 1048575, 2535301200456458802993406411264, 106, true), (524288, 1048575, 2535301200456458802993406411776, 107, true), (25690112, 26214399, 124229758822366481346676914126848, 108, true), (34078720, 59768831, 164794578029669822194571416698880, 109, true), (71827456, 133169151, 347336264462534856010096678273024, 110, true), (134742016, 267386879, 651572408517309912369305447563264, 111, true), (270008320, 536870911, 1305680118235076283541604301537280, 112, true), (537395200, 1073741823, 2598683730467870273068241571020800, 113, true)]
noncomputable def c7_21:=cR c7_20
noncomputable def c7_22:=cL c7_21
noncomputable def c7_23:=cL c7_15
noncomputable def c7_24:=cR c7_23
noncomputable def c7_25:=cL c7_7
noncomputable def c7_26:=cR c7_25
noncomputable def c7_27:=cL c7_26
noncomputable def c7_28:=cL c7_4
noncomputable def c7_29:=cR c7_28
noncomputable def c7_30:=cL c7_29
noncomputable def c7_31:=cL c7_30
noncomputable def c7_32:=cR c7_31
noncomputable def c7_33:=cR c7_32
noncomputable def c7_34:=cL c7_32
noncomputable def c7_35:=cL c7_34
noncomputable def c7_36:=cR c7_35
noncomputable def c7_37:=cR c7_36
noncomputable def c7_38:=cL c7_37
noncomputable def c7_39:=cR c7_38
noncomputable def c7_40:=cL c7_39
noncomputable def c7_41:=cR c7_39
noncomputable def c7_42:=cR c7_41
noncomputable def c7_43:=cL c7_42
noncomputable def c7_44:=cR c7_42
noncomputable def c7_45:=cR c7_44
noncomputable def c7_46:=cL c7_45
noncomputable def c7_47:=cL c7_31
noncomputable def c7_48:=cR c7_47
noncomputable def c7_49:=cL c7_3
noncomputable def c7_50:=cR c7_49
noncomputable def c7_51:=cL c7_50
noncomputable def c7_52:=cL c7_1
noncomputable def c7_53:=cR c7_52
noncomputable def c7_54:=cL c7_53
def c7_11_s:=reg7 c7_11 .ret (fun N M G k e w =>
 M (e 14) fun t120 =>
 N (xv (Op.unary .not t120)) w fun t121 w =>
 M t121 fun t122 =>
 G (isB t122 true) (fun K => N (xv (loadAt 52 (e 13))) w K) (fun t123 w =>
 G (isB t122 true) (fun K => N (xv (Instr.build 52 ([]).toArray)) w K) (fun t124 w =>
 G (isB t122 true) (fun K => N (xv (xbin .eql 52 (.tmp 123) (.tmp 124) t123 t124)) w K) (fun t125 w =>
 N (xpick t122 t125 (.bool false)) w fun t126 w =>
 M t126 fun t127 =>
 G (isB t127 true) (fun K => N (xv (fieldAt 43 (e 15) 6)) w K) (fun t128 w =>
 G (isB t127 true) (fun K => N (xv (loadAt 3 t128)) w K) (fun t129 w =>
 G (isB t127 true) (fun K => N (xv (xbin .eql 3 (.tmp 129) (.const (.int .i64 0)) t129 (.int .i64 0))) w K) (fun t130 w =>
 N (xpick t127 t130 (.bool false)) w fun t131 w =>
 M t131 fun t132 =>
 G (isB t132 true) (fun K => N (xv (fieldAt 43 (e 15) 7)) w K) (fun t133 w =>
 G (isB t132 true) (fun K => N (xv (loadAt 41 t133)) w K) (fun t134 w =>
 G (isB t132 true) (fun K => N (builtin Builtin.len #[41] 3 ([false]).toArray ([t134]).toArray) w K) (fun t135 w =>
 G (isB t132 true) (fun K => N (xv (xbin .eql 3 (.tmp 135) (.const (.int .i64 0)) t135 (.int .i64 0))) w K) (fun t136 w =>
 N (xpick t132 t136 (.bool false)) w fun t137 w =>
 M t137 fun t138 =>
 G (isB t138 true) (fun K => N (xv (fieldAt 43 (e 15) 3)) w K) (fun t139 w =>
 G (isB t138 true) (fun K => N (xv (loadAt 2 t139)) w K) (fun t140 w =>
 G (isB t138 true) (fun K => N (xv (fieldAt 43 (e 8) 3)) w K) (fun t141 w =>
 G (isB t138 true) (fun K => N (xv (loadAt 2 t141)) w K) (fun t142 w =>
 G (isB t138 true) (fun K => N (xv (xbin .eql 2 (.tmp 140) (.tmp 142) t140 t142)) w K) (fun t143 w =>
 N (xpick t138 t143 (.bool false)) w fun t144 w =>
 M t144 fun t145 =>
 G (isB t145 true) (fun K => N (xv (fieldAt 43 (e 15) 5)) w K) (fun t146 w =>
 G (isB t145 true) (fun K => N (xv (loadAt 40 t146)) w K) (fun t147 w =>
 G (isB t145 true) (fun K => N (builtin Builtin.len #[40] 3 ([false]).toArray ([t147]).toArray) w K) (fun t148 w =>
 G (isB t145 true) (fun K => N (xv (fieldAt 43 (e 8) 5)) w K) (fun t149 w =>
 G (isB t145 true) (fun K => N (xv (loadAt 40 t149)) w K) (fun t150 w =>
 G (isB t145 true) (fun K => N (builtin Builtin.len #[40] 3 ([false]).toArray ([t150]).toArray) w K) (fun t151 w =>
 G (isB t145 true) (fun K => N (xv (xbin .eql 3 (.tmp 148) (.tmp 151) t148 t151)) w K) (fun t152 w =>
 N (xpick t145 t152 (.bool false)) w fun t153 w =>
 M t153 fun t4 =>
 k (Env.p e 4 t4) w) w) w) w) w) w) w) w) w) w) w) w) w) w) w) w) w) w) w) w) w) w) w)
def c7_10_s:=reg7 c7_10 c7_11 (fun N M G k e w =>
 M (e 5) fun t118 =>
 N (xcall (.func (.func 23) #[] #[]) [t118]) w fun t119 w =>
 N (xv (Instr.alloc 43 true (.tuple #[]))) w fun t15 w =>
 N (xu (storeAt 43 t15 t119)) w fun _ w =>
 k (Env.p e 15 t15) w)
def c7_9_s:=reg7 c7_9 c7_10 (fun N M G k e w =>
 M (e 5) fun t114 =>
 N (xcall (.func (.func 29) #[] #[]) [t114]) w fun t115 w =>
 M t115 fun t113 =>
 N (xv (Instr.extract t113 0)) w fun t116 w =>
 N (xv (Instr.extract t113 1)) w fun t117 w =>
 N (xv (Instr.alloc 52 true (.tuple #[]))) w fun t13 w =>
 N (xu (storeAt 52 t13 t116)) w fun _ w =>
 M t117 fun t14 =>
 k (Env.p (Env.p e 13 t13) 14 t14) w)
def c7_17_s:=rend7 c7_17 (fun N M G k e w =>
 M (e 10) fun t75 =>
 N (xv (xbin .add 3 (.tmp 75) (.const (.int .i64 1)) t75 (.int .i64 1))) w fun t76 w =>
 M t76 fun t10 =>
 k (Env.p e 10 t10) w)
def c7_22_s:=reg7 c7_22 .ret (fun N M G k e w =>
 M (.bool false) fun t4 =>
 k (Env.p e 4 t4) w)
def c7_21_s:=cond7 c7_21 .skip 112 c7_22
def c7_20_s:=drw7 c7_20 c7_21 b7_25 31 (fun N T M G H Y k e w =>
 M (e 12) fun t82 =>
 T (FrX none w) (xv (Op.unary .not t82)) fun t83 =>
 M t83 fun t84 =>
 H (isB t84 false) (fun K => M (e 9) K) (fun t85 =>
 H (isB t84 false) (fun K => M (e 10) K) (fun t86 =>
 H (isB t84 false) (fun K => T (FrX none w) (xv (indexAt 63 t85 t86)) K) (fun t87 =>
 H (isB t84 false) (fun K => T (FrX (some []) w) (xv (loadAt 3 t87)) K) (fun t88 =>
 H (isB t84 false) (fun K => T (FrX none w) (xv (xbin .lss 3 (.tmp 88) (.const (.int .i64 0)) t88 (.int .i64 0))) K) (fun t89 =>
 T (FrX none w) (xpick t84 (.bool true) t89) fun t90 =>
 M t90 fun t91 =>
 H (isB t91 false) (fun K => M (e 9) K) (fun t92 =>
 H (isB t91 false) (fun K => M (e 10) K) (fun t93 =>
 H (isB t91 false) (fun K => T (FrX none w) (xv (indexAt 63 t92 t93)) K) (fun t94 =>
 H (isB t91 false) (fun K => T (FrX (some []) w) (xv (loadAt 3 t94)) K) (fun t95 =>
 H (isB t91 false) (fun K => T (FrX none w) (xv (fieldAt 43 (e 8) 7)) K) (fun t96 =>
 H (isB t91 false) (fun K => T (FrX (some []) w) (xv (loadAt 41 t96)) K) (fun t97 =>
 H (isB t91 false) (fun K => T (FrX (some []) w) (builtin Builtin.len #[41] 3 ([false]).toArray ([t97]).toArray) K) (fun t98 =>
 H (isB t91 false) (fun K => T (FrX none w) (xv (xbin .geq 3 (.tmp 95) (.tmp 98) t95 t98)) K) (fun t99 =>
 T (FrX none w) (xpick t91 (.bool true) t99) fun t100 =>
 M t100 fun t101 =>
 H (isB t101 false) (fun K => T (FrX (some []) w) (xv (loadAt 52 (e 11))) K) (fun t102 =>
 H (isB t101 false) (fun K => T (FrX none w) (xv (fieldAt 43 (e 8) 7)) K) (fun t103 =>
 H (isB t101 false) (fun K => T (FrX (some []) w) (xv (loadAt 41 t103)) K) (fun t104 =>
 H (isB t101 false) (fun K => M (e 9) K) (fun t105 =>
 H (isB t101 false) (fun K => M (e 10) K) (fun t106 =>
 H (isB t101 false) (fun K => T (FrX none w) (xv (indexAt 63 t105 t106)) K) (fun t107 =>
 H (isB t101 false) (fun K => T (FrX (some []) w) (xv (loadAt 3 t107)) K) (fun t108 =>
 H (isB t101 false) (fun K => T (FrX none w) (xv (indexAt 41 t104 t108)) K) (fun t109 =>
 H (isB t101 false) (fun K => T (FrX (some []) w) (xv (loadAt 52 t109)) K) (fun t110 =>
 H (isB t101 false) (fun K => T (FrX none w) (xv (xbin .neq 52 (.tmp 102) (.tmp 110) t102 t110)) K) (fun t111 =>
 T (FrX none w) (xpick t101 (.bool true) t111) fun t112 =>
 k (Env.p e 112 t112) w))))))))))))))))))))))))
def c7_19_s:=reg7 c7_19 c7_20 (fun N M G k e w =>
 M (e 5) fun t78 =>
 N (xcall (.func (.func 29) #[] #[]) [t78]) w fun t79 w =>
 M t79 fun t77 =>
 N (xv (Instr.extract t77 0)) w fun t80 w =>
 N (xv (Instr.extract t77 1)) w fun t81 w =>
 N (xv (Instr.alloc 52 true (.tuple #[]))) w fun t11 w =>
 N (xu (storeAt 52 t11 t80)) w fun _ w =>
 M t81 fun t12 =>
 k (Env.p (Env.p e 11 t11) 12 t12) w)
def c7_18_s:=block7 c7_18 c7_19 4
def c7_16_s:=seq7 c7_16 c7_17 c7_18
def c7_24_s:=cond7 c7_24 (.exit 3) 74 .skip
def c7_23_s:=reg7 c7_23 c7_24 (fun N M G k e w =>
 M (e 10) fun t71 =>
 M (e 9) fun t72 =>
 N (builtin Builtin.len #[63] 3 ([false]).toArray ([t72]).toArray) w fun t73 w =>
 N (xv (xbin .lss 3 (.tmp 71) (.tmp 73) t71 t73)) w fun t74 w =>
 k (Env.p e 74 t74) w)
def c7_15_s:=seq7 c7_15 c7_16 c7_23
def c7_14_s:=loop7 c7_14 c7_15
def c7_13_s:=block7 c7_13 c7_14 3
def c7_12_s:=reg7 c7_12 c7_13 (fun N M G k e w =>
 M (.int .i64 0) fun t10 =>
 k (Env.p e 10 t10) w)
def c7_8_s:=seq7 c7_8 c7_9 c7_12
def c7_27_s:=reg7 c7_27 .ret (fun N M G k e w =>
 M (.bool false) fun t4 =>
 k (Env.p e 4 t4) w)
def c7_26_s:=cond7 c7_26 .skip 70 c7_27
def c7_25_s:=reg7 c7_25 c7_26 (fun N M G k e w =>
 M (e 9) fun t65 =>
 N (builtin Builtin.len #[63] 3 ([false]).toArray ([t65]).toArray) w fun t66 w =>
 N (xv (fieldAt 43 (e 8) 7)) w fun t67 w =>
 N (xv (loadAt 41 t67)) w fun t68 w =>
 N (builtin Builtin.len #[41] 3 ([false]).toArray ([t68]).toArray) w fun t69 w =>
 N (xv (xbin .neq 3 (.tmp 66) (.tmp 69) t66 t69)) w fun t70 w =>
 k (Env.p e 70 t70) w)
def c7_7_s:=seq7 c7_7 c7_8 c7_25
def c7_6_s:=reg7 c7_6 c7_7 (fun N M G k e w =>
 N (xv (fieldAt 43 (e 8) 7)) w fun t62 w =>
 N (xv (loadAt 41 t62)) w fun t63 w =>
 N (xcall (.func (.func 28) #[] #[]) [t63]) w fun t64 w =>
 M t64 fun t9 =>
 k (Env.p e 9 t9) w)
def c7_5_s:=reg7 c7_5 c7_6 (fun N M G k e w =>
 M (e 5) fun t60 =>
 N (xcall (.func (.func 23) #[] #[]) [t60]) w fun t61 w =>
 N (xv (Instr.alloc 43 true (.tuple #[]))) w fun t8 w =>
 N (xu (storeAt 43 t8 t61)) w fun _ w =>
 k (Env.p e 8 t8) w)
def c7_33_s:=rend7 c7_33 (fun N M G k e w =>
 M (e 6) fun t26 =>
 N (xv (xbin .add 3 (.tmp 26) (.const (.int .i64 1)) t26 (.int .i64 1))) w fun t27 w =>
 M t27 fun t6 =>
 k (Env.p e 6 t6) w)
def c7_40_s:=rend7 c7_40 (fun N M G k e w =>
 M (e 5) fun t37 =>
 N (xv (fieldAt 50 (e 7) 1)) w fun t38 w =>
 N (xv (loadAt 9 t38)) w fun t39 w =>
 N (xv (fieldAt 50 (e 7) 2)) w fun t40 w =>
 N (xv (loadAt 48 t40)) w fun t41 w =>
 N (xcall (.func (.func 25) #[] #[]) [t37, t39, t41]) w fun t42 w =>
 k e w)
def c7_43_s:=rend7 c7_43 (fun N M G k e w =>
 M (e 5) fun t45 =>
 N (xv (fieldAt 50 (e 7) 3)) w fun t46 w =>
 N (xv (loadAt 34 t46)) w fun t47 w =>
 N (xv (fieldAt 50 (e 7) 4)) w fun t48 w =>
 N (xv (loadAt 2 t48)) w fun t49 w =>
 N (xcall (.func (.func 18) #[] #[]) [t45, t47, t49]) w fun t50 w =>
 k e w)
def c7_46_s:=rend7 c7_46 (fun N M G k e w =>
 M (e 5) fun t53 =>
 N (xv (fieldAt 50 (e 7) 4)) w fun t54 w =>
 N (xv (loadAt 2 t54)) w fun t55 w =>
 N (xv (fieldAt 50 (e 7) 5)) w fun t56 w =>
 N (xv (loadAt 22 t56)) w fun t57 w =>
 N (xv (Instr.build 38 ([(0, t55), (1, t57)]).toArray)) w fun t58 w =>
 N (xcall (.func (.func 20) #[] #[]) [t53, t58]) w fun t59 w =>
 k e w)
def c7_45_s:=cond7 c7_45 .skip 51 c7_46
def c7_44_s:=reg7 c7_44 c7_45 (fun N M G k e w =>
 N (xv (xbin .eql 5 (.tmp 34) (.const (.int .u8 2)) (e 34) (.int .u8 2))) w fun t52 w =>
 M t52 fun t51 =>
 k (Env.p e 51 t51) w)
def c7_42_s:=cond7 c7_42 c7_44 43 c7_43
def c7_41_s:=reg7 c7_41 c7_42 (fun N M G k e w =>
 N (xv (xbin .eql 5 (.tmp 34) (.const (.int .u8 1)) (e 34) (.int .u8 1))) w fun t44 w =>
 M t44 fun t43 =>
 k (Env.p e 43 t43) w)
def c7_39_s:=cond7 c7_39 c7_41 35 c7_40
def c7_38_s:=reg7 c7_38 c7_39 (fun N M G k e w =>
 N (xv (xbin .eql 5 (.tmp 34) (.const (.int .u8 0)) (e 34) (.int .u8 0))) w fun t36 w =>
 M t36 fun t35 =>
 k (Env.p e 35 t35) w)
def c7_37_s:=block7 c7_37 c7_38 2
def c7_36_s:=reg7 c7_36 c7_37 (fun N M G k e w =>
 N (xv (fieldAt 50 (e 7) 0)) w fun t32 w =>
 N (xv (loadAt 5 t32)) w fun t33 w =>
 N (xv (xbin .rem 5 (.tmp 33) (.const (.int .u8 3)) t33 (.int .u8 3))) w fun t34 w =>
 k (Env.p e 34 t34) w)
def c7_35_s:=reg7 c7_35 c7_36 (fun N M G k e w =>
 M (e 1) fun t28 =>
 M (e 6) fun t29 =>
 N (xv (indexAt 46 t28 t29)) w fun t30 w =>
 N (xv (loadAt 50 t30)) w fun t31 w =>
 N (xv (Instr.alloc 50 true (.tuple #[]))) w fun t7 w =>
 N (xu (storeAt 50 t7 t31)) w fun _ w =>
 k (Env.p e 7 t7) w)
def c7_34_s:=block7 c7_34 c7_35 1
def c7_32_s:=seq7 c7_32 c7_33 c7_34
def c7_48_s:=cond7 c7_48 (.exit 0) 25 .skip
def c7_47_s:=reg7 c7_47 c7_48 (fun N M G k e w =>
 M (e 6) fun t22 =>
 M (e 1) fun t23 =>
 N (builtin Builtin.len #[46] 3 ([false]).toArray ([t23]).toArray) w fun t24 w =>
 N (xv (xbin .lss 3 (.tmp 22) (.tmp 24) t22 t24)) w fun t25 w =>
 k (Env.p e 25 t25) w)
def c7_31_s:=seq7 c7_31 c7_32 c7_47
def c7_30_s:=loop7 c7_30 c7_31
def c7_29_s:=block7 c7_29 c7_30 0
def c7_28_s:=reg7 c7_28 c7_29 (fun N M G k e w =>
 M (.int .i64 0) fun t6 =>
 k (Env.p e 6 t6) w)
def c7_4_s:=seq7 c7_4 c7_5 c7_28
def c7_51_s:=reg7 c7_51 .ret (fun N M G k e w =>
 M (.bool false) fun t4 =>
 k (Env.p e 4 t4) w)
def c7_50_s:=cond7 c7_50 .skip 21 c7_51
def c7_49_s:=reg7 c7_49 c7_50 (fun N M G k e w =>
 M (e 5) fun t20 =>
 N (xv (xbin .eql 26 (.tmp 20) (.const (.pointer none)) t20 (.pointer none))) w fun t21 w =>
 k (Env.p e 21 t21) w)
def c7_3_s:=seq7 c7_3 c7_4 c7_49
def c7_2_s:=reg7 c7_2 c7_3 (fun N M G k e w =>
 N (xv (loadAt 25 (e 2))) w fun t18 w =>
 N (xcall (.func (.func 15) #[] #[]) [t18]) w fun t19 w =>
 M t19 fun t5 =>
 k (Env.p e 5 t5) w)
def c7_54_s:=reg7 c7_54 .ret (fun N M G k e w =>
 M (.bool false) fun t4 =>
 k (Env.p e 4 t4) w)
def c7_53_s:=cond7 c7_53 .skip 17 c7_54
def c7_52_s:=reg7 c7_52 c7_53 (fun N M G k e w =>
 N (xcall (.func (.func 14) #[] #[]) []) w fun t16 w =>
 N (xv (Op.unary .not t16)) w fun t17 w =>
 k (Env.p e 17 t17) w)
def c7_1_s:=seq7 c7_1 c7_2 c7_52
def c7_s:=reg7 c7 c7_1 (fun N M G k e w =>
 N (xv (Instr.box 25 (e 0))) w fun t2 w =>
 M (.bool false) fun t4 =>
 k (Env.p (Env.p e 2 t2) 4 t4) w)
theorem call7 {a0 a1 : Value} {w : World} {R : Value → World → Prop} (h : W3 Tryz.prog 154 V7 c7 (retQ Tryz.prog [.tmp 4] R) (argE [a0, a1]) w) : CallsN Tryz.prog 7 [a0, a1] w R :=
 callsN_of_W3 (c := c7) (rs := [.tmp 4]) V7 Tryz.ntmps7 (by rw [Tryz.results7]) mixed Tryz.func7 (by kernel_rfl) (by kernel_rfl) (by kernel_rfl) (by kernel_rfl) (by simp) h
def w3t_7:=w3t Tryz.prog 154 V7
def hk7 := aI @c7_11_s <| aI @c7_10_s <| aI @c7_9_s <| aI @c7_17_s <| aI @c7_22_s <| aI @c7_21_s <| aI @c7_20_s <| aI @c7_19_s <| aI @c7_18_s <| aI @c7_16_s <| aI @c7_24_s <| aI @c7_23_s <| aI @c7_15_s <| aI @c7_14_s <| aI @c7_13_s <| aI @c7_12_s <| aI @c7_8_s <| aI @c7_27_s <| aI @c7_26_s <| aI @c7_25_s <| aI @c7_7_s <| aI @c7_6_s <| aI @c7_5_s <| aI @c7_33_s <| aI @c7_40_s <| aI @c7_43_s <| aI @c7_46_s <| aI @c7_45_s <| aI @c7_44_s <| aI @c7_42_s <| aI @c7_41_s <| aI @c7_39_s <| aI @c7_38_s <| aI @c7_37_s <| aI @c7_36_s <| aI @c7_35_s <| aI @c7_34_s <| aI @c7_32_s <| aI @c7_48_s <| aI @c7_47_s <| aI @c7_31_s <| aI @c7_30_s <| aI @c7_29_s <| aI @c7_28_s <| aI @c7_4_s <| aI @c7_51_s <| aI @c7_50_s <| aI @c7_49_s <| aI @c7_3_s <| aI @c7_2_s <| aI @c7_54_s <| aI @c7_53_s <| aI @c7_52_s <| aI @c7_1_s <| aI @c7_s <| @w3t_7
-- K7: ↓hk7
/-! ### vouch/vouchlaw12.NodeOver -/
-- K11: ↓hk11
/-! ### vouch/vouchlaw12.taken -/
def V35 : Nat → Bool := fun i => [0, 1, 4, 5, 9, 17].elem i
noncomputable def c35:Code:=(Tryz.f35.body.getD .skip)
theorem call35 {a0 a1 : Value} {w : World} {R : Value → World → Prop} (h : W3 Tryz.prog 18 V35 c35 (retQ Tryz.prog [.tmp 4] R) (argE [a0, a1]) w) : CallsN Tryz.prog 35 [a0, a1] w R :=
 callsN_of_W3 (c := c35) (rs := [.tmp 4]) V35 Tryz.ntmps35 (by rw [Tryz.results35]) mixed Tryz.func35 (by kernel_rfl) (by kernel_rfl) (by kernel_rfl) (by kernel_rfl) (by simp) h
-- K35: ↓hk35
/-! ### vouch/vouchlaw12.kept -/
def V36 : Nat → Bool := fun i => [0, 1, 3, 4, 5, 6, 7, 8, 13, 25, 54].elem i
noncomputable def c36:Code:=(Tryz.f36.body.getD .skip)
theorem call36 {a0 a1 : Value} {w : World} {R : Value → World → Prop} (h : W3 Tryz.prog 55 V36 c36 (retQ Tryz.prog [.tmp 4] R) (argE [a0, a1]) w) : CallsN Tryz.prog 36 [a0, a1] w R :=
 callsN_of_W3 (c := c36) (rs := [.tmp 4]) V36 Tryz.ntmps36 (by rw [Tryz.results36]) mixed Tryz.func36 (by kernel_rfl) (by kernel_rfl) (by kernel_rfl) (by kernel_rfl) (by simp) h
-- K36: ↓hk36
/-! ### vouch/policy.Order -/
def V28 : Nat → Bool := fun i => [0, 2].elem i
def reg28:=@s_reg Tryz.prog 5 V28
noncomputable def c28:Code:=(Tryz.f28.body.getD .skip)
noncomputable def c28_1:=cR c28
def c28_1_s:=reg28 c28_1 .ret (fun N M G k e w =>
 M (e 0) fun t3 =>
 N (xcall (.func (.func 86) #[] #[]) [t3, (.func (.func 87) #[] #[])]) w fun t4 w =>
 M t4 fun t2 =>
 k (Env.p e 2 t2) w)
def c28_s:=reg28 c28 c28_1 (fun N M G k e w =>
 M (.slice none 0 0) fun t2 =>
 k (Env.p e 2 t2) w)
theorem call28 {a0 : Value} {w : World} {R : Value → World → Prop} (h : W3 Tryz.prog 5 V28 c28 (retQ Tryz.prog [.tmp 2] R) (argE [a0]) w) : CallsN Tryz.prog 28 [a0] w R :=
 callsN_of_W3 (c := c28) (rs := [.tmp 2]) V28 Tryz.ntmps28 (by rw [Tryz.results28]) mixed Tryz.func28 (by kernel_rfl) (by kernel_rfl) (by kernel_rfl) (by kernel_rfl) (by simp) h
def w3t_28:=w3t Tryz.prog 5 V28
def hk28 := aI @c28_1_s <| aI @c28_s <| @w3t_28
-- K28: ↓hk28
end
end Go.Proofs.YtomlgkecckffeaaGreat
