/- The equations of the code of some functions, written by the printer gen3.py: each is checked by the kernel. -/
import Derived.Test.YtomlgkecckffeaaGreatCI
set_option linter.unusedVariables false
set_option linter.unusedSimpArgs false
set_option maxRecDepth 100000
namespace Go.Proofs.YtomlgkecckffeaaGreat
open Go.VW
open Go.Instr (loadAt storeAt fieldAt indexAt)
noncomputable section
set_option linter.defProp false
variable {N : NT} {T : T3T} {M : MT} {G : GT} {H : HT} {Y : YT} {k : KT} {Q : Exit → Env → World → Prop} {e el eg : Env} {w u0 u1 u2 u3 u4 u5 u6 u7 u8 u9 : World}
/-! ### vouch/vouchlaw12.NodeAnswers -/
noncomputable def c4:Code:=(Tryz.f4.body.getD .skip)
-- K4: ↓hk4
/-! ### vouch/vouchlaw12.NodeBounds -/
def V6 : Nat → Bool := fun i => [0, 1, 2, 4, 5, 6, 7, 8, 9, 10, 11, 12, 13, 15, 19, 23, 32, 33, 41, 49, 58, 72, 110, 119, 121, 154].elem i
def block6:=@s_block Tryz.prog 155 V6
def cond6:=@s_cond Tryz.prog 155 V6
def drw6:=@s_drw Tryz.prog 155 V6
def loop6:=@s_loop Tryz.prog 155 V6
def reg6:=@s_reg Tryz.prog 155 V6
def rend6:=@s_rend Tryz.prog 155 V6
def seq6:=@s_seq Tryz.prog 155 V6
noncomputable def c6:Code:=(Tryz.f6.body.getD .skip)
noncomputable def c6_1:=cR c6
noncomputable def c6_2:=cR c6_1
noncomputable def c6_3:=cR c6_2
noncomputable def c6_4:=cR c6_3
noncomputable def c6_5:=cR c6_4
noncomputable def c6_6:=cL c6_4
noncomputable def c6_7:=cR c6_6
noncomputable def c6_8:=cL c6_7
noncomputable def c6_9:=cL c6_8
noncomputable def c6_10:=cR c6_9
noncomputable def c6_11:=cR c6_10
noncomputable def c6_12:=cL c6_10
noncomputable def c6_13:=cL c6_12
noncomputable def c6_14:=cR c6_13
noncomputable def c6_15:=cR c6_14
noncomputable def c6_16:=cR c6_15
noncomputable def c6_17:=cR c6_16
noncomputable def c6_18:=cR c6_17
noncomputable def c6_19:=cR c6_18
noncomputable def c6_20:=cL c6_19
noncomputable def c6_21:=cL c6_17
noncomputable def c6_22:=cR c6_21
noncomputable def c6_23:=cL c6_22
noncomputable def c6_24:=cL c6_23
noncomputable def c6_25:=cR c6_24
noncomputable def c6_26:=cR c6_25
noncomputable def c6_27:=cL c6_25
noncomputable def c6_28:=cL c6_27
noncomputable def c6_29:=cR c6_28
noncomputable def c6_30:=cR c6_29
noncomputable def c6_31:=cR c6_30
noncomputable def c6_32:=cR c6_31
noncomputable def c6_33:=cR c6_32
noncomputable def c6_34:=cR c6_33
noncomputable def c6_35:=cL c6_34
noncomputable def c6_36:=cL c6_32
noncomputable def c6_37:=cR c6_36
noncomputable def c6_38:=cL c6_37
noncomputable def c6_39:=cL c6_31
noncomputable def b6_27:List Row:=[(0, 0, 4096, 96, true), (1, 1, 39614081257132168796771975168, 97, true), (2, 3, 79228162514264337593543950336, 98, true), (4, 7, 158456325028528675187087900928, 99, true), (12, 15, 475368975085586025561263702016, 100, true), (4, 7, 158456325028528675187087904768, 101, true), (36, 39, 1426106925256758076683791106048, 102, true), (84, 127, 3327582825599102178928845914112, 103, true), (132, 255, 5229058725941446281173900722176, 104, true), (260, 511, 10299661126854363887160713543680, 105, true), (516, 1023, 20440865928680199099134339186688, 106, true), (4, 7, 158456325028528675187087908864, 107, true), (2052, 2055, 81288094739635210370976093044736, 108, true), (4100, 6151, 162417733154241892066765098188800, 109, true), (9220, 16383, 365241829190758596306237611048960, 110, true), (16388, 32767, 649195563641881982241499129053184, 111, true)]
noncomputable def c6_40:=cR c6_39
noncomputable def c6_41:=cL c6_40
noncomputable def c6_42:=cL c6_24
noncomputable def c6_43:=cR c6_42
noncomputable def c6_44:=cL c6_14
noncomputable def c6_45:=cR c6_44
noncomputable def c6_46:=cL c6_45
noncomputable def c6_47:=cR c6_46
noncomputable def c6_48:=cL c6_47
noncomputable def c6_49:=cR c6_47
noncomputable def c6_50:=cR c6_49
noncomputable def c6_51:=cL c6_50
noncomputable def c6_52:=cR c6_50
noncomputable def c6_53:=cR c6_52
noncomputable def c6_54:=cL c6_53
noncomputable def c6_55:=cR c6_53
noncomputable def c6_56:=cR c6_55
noncomputable def c6_57:=cL c6_56
noncomputable def c6_58:=cL c6_9
noncomputable def c6_59:=cR c6_58
noncomputable def c6_60:=cL c6_3
noncomputable def c6_61:=cR c6_60
noncomputable def c6_62:=cL c6_61
noncomputable def c6_63:=cL c6_1
noncomputable def c6_64:=cR c6_63
noncomputable def c6_65:=cL c6_64
def c6_5_s:=reg6 c6_5 .ret (fun N M G k e w =>
 M (.bool true) fun t4 =>
 k (Env.p e 4 t4) w)
def c6_11_s:=rend6 c6_11 (fun N M G k e w =>
 M (e 6) fun t24 =>
 N (xv (xbin .add 3 (.tmp 24) (.const (.int .i64 1)) t24 (.int .i64 1))) w fun t25 w =>
 M t25 fun t6 =>
 k (Env.p e 6 t6) w)
def c6_20_s:=reg6 c6_20 .ret (fun N M G k e w =>
 M (.bool false) fun t4 =>
 k (Env.p e 4 t4) w)
def c6_19_s:=cond6 c6_19 .skip 154 c6_20
def c6_18_s:=reg6 c6_18 c6_19 (fun N M G k e w =>
 N (xv (fieldAt 43 (e 8) 6)) w fun t124 w =>
 N (xv (loadAt 3 t124)) w fun t125 w =>
 M (e 9) fun t126 =>
 N (xv (xbin .neq 3 (.tmp 125) (.tmp 126) t125 t126)) w fun t127 w =>
 M t127 fun t128 =>
 G (isB t128 false) (fun K => M (e 9) fun v => K v w) (fun t129 w =>
 G (isB t128 false) (fun K => N (xv (fieldAt 25 (e 2) 1)) w K) (fun t130 w =>
 G (isB t128 false) (fun K => N (xv (loadAt 3 t130)) w K) (fun t131 w =>
 G (isB t128 false) (fun K => N (builtin Builtin.max #[3, 3] 3 ([false, true]).toArray ([t131, (.int .i64 0)]).toArray) w K) (fun t132 w =>
 G (isB t128 false) (fun K => N (xv (xbin .gtr 3 (.tmp 129) (.tmp 132) t129 t132)) w K) (fun t133 w =>
 N (xpick t128 (.bool true) t133) w fun t134 w =>
 M t134 fun t135 =>
 G (isB t135 false) (fun K => M (e 9) fun v => K v w) (fun t136 w =>
 G (isB t135 false) (fun K => N (xv (xbin .gtr 3 (.tmp 136) (.const (.int .i64 1048576)) t136 (.int .i64 1048576))) w K) (fun t137 w =>
 N (xpick t135 (.bool true) t137) w fun t138 w =>
 M t138 fun t139 =>
 G (isB t139 false) (fun K => N (xv (fieldAt 43 (e 8) 5)) w K) (fun t140 w =>
 G (isB t139 false) (fun K => N (xv (loadAt 40 t140)) w K) (fun t141 w =>
 G (isB t139 false) (fun K => N (builtin Builtin.len #[40] 3 ([false]).toArray ([t141]).toArray) w K) (fun t142 w =>
 G (isB t139 false) (fun K => N (xv (fieldAt 25 (e 2) 3)) w K) (fun t143 w =>
 G (isB t139 false) (fun K => N (xv (loadAt 3 t143)) w K) (fun t144 w =>
 G (isB t139 false) (fun K => N (builtin Builtin.max #[3, 3] 3 ([false, true]).toArray ([t144, (.int .i64 0)]).toArray) w K) (fun t145 w =>
 G (isB t139 false) (fun K => N (xv (xbin .gtr 3 (.tmp 142) (.tmp 145) t142 t145)) w K) (fun t146 w =>
 N (xpick t139 (.bool true) t146) w fun t147 w =>
 M t147 fun t148 =>
 G (isB t148 false) (fun K => M (e 11) fun v => K v w) (fun t149 w =>
 G (isB t148 false) (fun K => N (xv (fieldAt 25 (e 2) 6)) w K) (fun t150 w =>
 G (isB t148 false) (fun K => N (xv (loadAt 3 t150)) w K) (fun t151 w =>
 G (isB t148 false) (fun K => N (builtin Builtin.max #[3, 3] 3 ([false, true]).toArray ([t151, (.int .i64 0)]).toArray) w K) (fun t152 w =>
 G (isB t148 false) (fun K => N (xv (xbin .gtr 3 (.tmp 149) (.tmp 152) t149 t152)) w K) (fun t153 w =>
 N (xpick t148 (.bool true) t153) w fun t154 w =>
 k (Env.p e 154 t154) w) w) w) w) w) w) w) w) w) w) w) w) w) w) w) w) w) w) w) w)
def c6_26_s:=rend6 c6_26 (fun N M G k e w =>
 M (e 12) fun t73 =>
 N (xv (xbin .add 3 (.tmp 73) (.const (.int .i64 1)) t73 (.int .i64 1))) w fun t74 w =>
 M t74 fun t12 =>
 k (Env.p e 12 t12) w)
def c6_35_s:=rend6 c6_35 (fun N M G k e w =>
 M (e 11) fun t122 =>
 N (xv (xbin .add 3 (.tmp 122) (.const (.int .i64 1)) t122 (.int .i64 1))) w fun t123 w =>
 M t123 fun t11 =>
 k (Env.p e 11 t11) w)
def c6_34_s:=cond6 c6_34 .skip 121 c6_35
def c6_33_s:=reg6 c6_33 c6_34 (fun N M G k e w =>
 N (xv (fieldAt 52 (e 13) 1)) w fun t120 w =>
 N (xv (loadAt 4 t120)) w fun t121 w =>
 k (Env.p e 121 t121) w)
def c6_38_s:=reg6 c6_38 .ret (fun N M G k e w =>
 M (.bool false) fun t4 =>
 k (Env.p e 4 t4) w)
def c6_37_s:=cond6 c6_37 .skip 119 c6_38
def c6_36_s:=reg6 c6_36 c6_37 (fun N M G k e w =>
 M (e 10) fun t111 =>
 N (xv (fieldAt 25 (e 2) 2)) w fun t112 w =>
 N (xv (loadAt 3 t112)) w fun t113 w =>
 N (builtin Builtin.max #[3, 3] 3 ([false, true]).toArray ([t113, (.int .i64 1)]).toArray) w fun t114 w =>
 N (xv (xbin .gtr 3 (.tmp 111) (.tmp 114) t111 t114)) w fun t115 w =>
 M t115 fun t116 =>
 G (isB t116 false) (fun K => M (e 10) fun v => K v w) (fun t117 w =>
 G (isB t116 false) (fun K => N (xv (xbin .gtr 3 (.tmp 117) (.const (.int .i64 64)) t117 (.int .i64 64))) w K) (fun t118 w =>
 N (xpick t116 (.bool true) t118) w fun t119 w =>
 k (Env.p e 119 t119) w) w) w)
def c6_32_s:=seq6 c6_32 c6_33 c6_36
def c6_41_s:=rend6 c6_41 (fun N M G k e w =>
 M (.int .i64 1) fun t10 =>
 k (Env.p e 10 t10) w)
def c6_40_s:=cond6 c6_40 .skip 110 c6_41
def c6_39_s:=drw6 c6_39 c6_40 b6_27 16 (fun N T M G H Y k e w =>
 M (e 12) fun t95 =>
 T (FrX none w) (xv (xbin .gtr 3 (.tmp 95) (.const (.int .i64 0)) t95 (.int .i64 0))) fun t96 =>
 M t96 fun t97 =>
 H (isB t97 true) (fun K => T (FrX none w) (xv (fieldAt 43 (e 8) 7)) K) (fun t98 =>
 H (isB t97 true) (fun K => T (FrX (some []) w) (xv (loadAt 41 t98)) K) (fun t99 =>
 H (isB t97 true) (fun K => M (e 12) K) (fun t100 =>
 H (isB t97 true) (fun K => T (FrX none w) (xv (xbin .sub 3 (.tmp 100) (.const (.int .i64 1)) t100 (.int .i64 1))) K) (fun t101 =>
 H (isB t97 true) (fun K => T (FrX none w) (xv (indexAt 41 t99 t101)) K) (fun t102 =>
 H (isB t97 true) (fun K => T (FrX none w) (xv (fieldAt 52 t102 0)) K) (fun t103 =>
 H (isB t97 true) (fun K => T (FrX none w) (xv (fieldAt 34 t103 0)) K) (fun t104 =>
 H (isB t97 true) (fun K => T (FrX (some []) w) (xv (loadAt 9 t104)) K) (fun t105 =>
 H (isB t97 true) (fun K => T (FrX none w) (xv (fieldAt 52 (e 13) 0)) K) (fun t106 =>
 H (isB t97 true) (fun K => T (FrX none w) (xv (fieldAt 34 t106 0)) K) (fun t107 =>
 H (isB t97 true) (fun K => T (FrX (some []) w) (xv (loadAt 9 t107)) K) (fun t108 =>
 H (isB t97 true) (fun K => T (FrX none w) (xv (xbin .neq 9 (.tmp 105) (.tmp 108) t105 t108)) K) (fun t109 =>
 T (FrX none w) (xpick t97 t109 (.bool false)) fun t110 =>
 k (Env.p e 110 t110) w)))))))))))))
def c6_31_s:=seq6 c6_31 c6_32 c6_39
def c6_30_s:=reg6 c6_30 c6_31 (fun N M G k e w =>
 M (e 10) fun t93 =>
 N (xv (xbin .add 3 (.tmp 93) (.const (.int .i64 1)) t93 (.int .i64 1))) w fun t94 w =>
 M t94 fun t10 =>
 k (Env.p e 10 t10) w)
def c6_29_s:=reg6 c6_29 c6_30 (fun N M G k e w =>
 M (e 9) fun t80 =>
 N (xv (fieldAt 52 (e 13) 0)) w fun t81 w =>
 N (xv (fieldAt 34 t81 0)) w fun t82 w =>
 N (xv (loadAt 9 t82)) w fun t83 w =>
 N (builtin Builtin.len #[9] 3 ([false]).toArray ([t83]).toArray) w fun t84 w =>
 N (xv (xbin .add 3 (.const (.int .i64 32)) (.tmp 84) (.int .i64 32) t84)) w fun t85 w =>
 N (xv (fieldAt 52 (e 13) 0)) w fun t86 w =>
 N (xv (fieldAt 34 t86 1)) w fun t87 w =>
 N (xv (fieldAt 31 t87 1)) w fun t88 w =>
 N (xv (loadAt 9 t88)) w fun t89 w =>
 N (builtin Builtin.len #[9] 3 ([false]).toArray ([t89]).toArray) w fun t90 w =>
 N (xv (xbin .add 3 (.tmp 85) (.tmp 90) t85 t90)) w fun t91 w =>
 N (xv (xbin .add 3 (.tmp 80) (.tmp 91) t80 t91)) w fun t92 w =>
 M t92 fun t9 =>
 k (Env.p e 9 t9) w)
def c6_28_s:=reg6 c6_28 c6_29 (fun N M G k e w =>
 N (xv (fieldAt 43 (e 8) 7)) w fun t75 w =>
 N (xv (loadAt 41 t75)) w fun t76 w =>
 M (e 12) fun t77 =>
 N (xv (indexAt 41 t76 t77)) w fun t78 w =>
 N (xv (loadAt 52 t78)) w fun t79 w =>
 N (xv (Instr.alloc 52 true (.tuple #[]))) w fun t13 w =>
 N (xu (storeAt 52 t13 t79)) w fun _ w =>
 k (Env.p e 13 t13) w)
def c6_27_s:=block6 c6_27 c6_28 4
def c6_25_s:=seq6 c6_25 c6_26 c6_27
def c6_43_s:=cond6 c6_43 (.exit 3) 72 .skip
def c6_42_s:=reg6 c6_42 c6_43 (fun N M G k e w =>
 M (e 12) fun t68 =>
 N (xv (fieldAt 43 (e 8) 7)) w fun t69 w =>
 N (xv (loadAt 41 t69)) w fun t70 w =>
 N (builtin Builtin.len #[41] 3 ([false]).toArray ([t70]).toArray) w fun t71 w =>
 N (xv (xbin .lss 3 (.tmp 68) (.tmp 71) t68 t71)) w fun t72 w =>
 k (Env.p e 72 t72) w)
def c6_24_s:=seq6 c6_24 c6_25 c6_42
def c6_23_s:=loop6 c6_23 c6_24
def c6_22_s:=block6 c6_22 c6_23 3
def c6_21_s:=reg6 c6_21 c6_22 (fun N M G k e w =>
 M (.int .i64 0) fun t12 =>
 k (Env.p e 12 t12) w)
def c6_17_s:=seq6 c6_17 c6_18 c6_21
def c6_16_s:=reg6 c6_16 c6_17 (fun N M G k e w =>
 M (.int .i64 0) fun t9 =>
 M (.int .i64 0) fun t10 =>
 M (.int .i64 0) fun t11 =>
 k (Env.p (Env.p (Env.p e 9 t9) 10 t10) 11 t11) w)
def c6_15_s:=reg6 c6_15 c6_16 (fun N M G k e w =>
 M (e 5) fun t66 =>
 N (xcall (.func (.func 23) #[] #[]) [t66]) w fun t67 w =>
 N (xv (Instr.alloc 43 true (.tuple #[]))) w fun t8 w =>
 N (xu (storeAt 43 t8 t67)) w fun _ w =>
 k (Env.p e 8 t8) w)
def c6_48_s:=rend6 c6_48 (fun N M G k e w =>
 M (e 5) fun t35 =>
 N (xv (fieldAt 50 (e 7) 1)) w fun t36 w =>
 N (xv (loadAt 9 t36)) w fun t37 w =>
 N (xv (fieldAt 50 (e 7) 2)) w fun t38 w =>
 N (xv (loadAt 48 t38)) w fun t39 w =>
 N (xcall (.func (.func 25) #[] #[]) [t35, t37, t39]) w fun t40 w =>
 k e w)
def c6_51_s:=rend6 c6_51 (fun N M G k e w =>
 M (e 5) fun t43 =>
 N (xv (fieldAt 50 (e 7) 3)) w fun t44 w =>
 N (xv (loadAt 34 t44)) w fun t45 w =>
 N (xv (fieldAt 50 (e 7) 4)) w fun t46 w =>
 N (xv (loadAt 2 t46)) w fun t47 w =>
 N (xcall (.func (.func 18) #[] #[]) [t43, t45, t47]) w fun t48 w =>
 k e w)
def c6_54_s:=rend6 c6_54 (fun N M G k e w =>
 M (e 5) fun t51 =>
 N (xv (fieldAt 50 (e 7) 4)) w fun t52 w =>
 N (xv (loadAt 2 t52)) w fun t53 w =>
 N (xv (fieldAt 50 (e 7) 5)) w fun t54 w =>
 N (xv (loadAt 22 t54)) w fun t55 w =>
 N (xv (Instr.build 38 ([(0, t53), (1, t55)]).toArray)) w fun t56 w =>
 N (xcall (.func (.func 20) #[] #[]) [t51, t56]) w fun t57 w =>
 k e w)
def c6_57_s:=rend6 c6_57 (fun N M G k e w =>
 M (e 5) fun t60 =>
 N (xv (fieldAt 50 (e 7) 6)) w fun t61 w =>
 N (xv (loadAt 3 t61)) w fun t62 w =>
 N (xv (fieldAt 50 (e 7) 4)) w fun t63 w =>
 N (xv (loadAt 2 t63)) w fun t64 w =>
 N (xcall (.func (.func 27) #[] #[]) [t60, t62, t64]) w fun t65 w =>
 k e w)
def c6_56_s:=cond6 c6_56 .skip 58 c6_57
def c6_55_s:=reg6 c6_55 c6_56 (fun N M G k e w =>
 N (xv (xbin .eql 5 (.tmp 32) (.const (.int .u8 3)) (e 32) (.int .u8 3))) w fun t59 w =>
 M t59 fun t58 =>
 k (Env.p e 58 t58) w)
def c6_53_s:=cond6 c6_53 c6_55 49 c6_54
def c6_52_s:=reg6 c6_52 c6_53 (fun N M G k e w =>
 N (xv (xbin .eql 5 (.tmp 32) (.const (.int .u8 2)) (e 32) (.int .u8 2))) w fun t50 w =>
 M t50 fun t49 =>
 k (Env.p e 49 t49) w)
def c6_50_s:=cond6 c6_50 c6_52 41 c6_51
def c6_49_s:=reg6 c6_49 c6_50 (fun N M G k e w =>
 N (xv (xbin .eql 5 (.tmp 32) (.const (.int .u8 1)) (e 32) (.int .u8 1))) w fun t42 w =>
 M t42 fun t41 =>
 k (Env.p e 41 t41) w)
def c6_47_s:=cond6 c6_47 c6_49 33 c6_48
def c6_46_s:=reg6 c6_46 c6_47 (fun N M G k e w =>
 N (xv (xbin .eql 5 (.tmp 32) (.const (.int .u8 0)) (e 32) (.int .u8 0))) w fun t34 w =>
 M t34 fun t33 =>
 k (Env.p e 33 t33) w)
def c6_45_s:=block6 c6_45 c6_46 2
def c6_44_s:=reg6 c6_44 c6_45 (fun N M G k e w =>
 N (xv (fieldAt 50 (e 7) 0)) w fun t30 w =>
 N (xv (loadAt 5 t30)) w fun t31 w =>
 N (xv (xbin .rem 5 (.tmp 31) (.const (.int .u8 4)) t31 (.int .u8 4))) w fun t32 w =>
 k (Env.p e 32 t32) w)
def c6_14_s:=seq6 c6_14 c6_15 c6_44
def c6_13_s:=reg6 c6_13 c6_14 (fun N M G k e w =>
 M (e 1) fun t26 =>
 M (e 6) fun t27 =>
 N (xv (indexAt 46 t26 t27)) w fun t28 w =>
 N (xv (loadAt 50 t28)) w fun t29 w =>
 N (xv (Instr.alloc 50 true (.tuple #[]))) w fun t7 w =>
 N (xu (storeAt 50 t7 t29)) w fun _ w =>
 k (Env.p e 7 t7) w)
def c6_12_s:=block6 c6_12 c6_13 1
def c6_10_s:=seq6 c6_10 c6_11 c6_12
def c6_59_s:=cond6 c6_59 (.exit 0) 23 .skip
def c6_58_s:=reg6 c6_58 c6_59 (fun N M G k e w =>
 M (e 6) fun t20 =>
 M (e 1) fun t21 =>
 N (builtin Builtin.len #[46] 3 ([false]).toArray ([t21]).toArray) w fun t22 w =>
 N (xv (xbin .lss 3 (.tmp 20) (.tmp 22) t20 t22)) w fun t23 w =>
 k (Env.p e 23 t23) w)
def c6_9_s:=seq6 c6_9 c6_10 c6_58
def c6_8_s:=loop6 c6_8 c6_9
def c6_7_s:=block6 c6_7 c6_8 0
def c6_6_s:=reg6 c6_6 c6_7 (fun N M G k e w =>
 M (.int .i64 0) fun t6 =>
 k (Env.p e 6 t6) w)
def c6_4_s:=seq6 c6_4 c6_5 c6_6
def c6_62_s:=reg6 c6_62 .ret (fun N M G k e w =>
 M (.bool false) fun t4 =>
 k (Env.p e 4 t4) w)
def c6_61_s:=cond6 c6_61 .skip 19 c6_62
def c6_60_s:=reg6 c6_60 c6_61 (fun N M G k e w =>
 M (e 5) fun t18 =>
 N (xv (xbin .eql 26 (.tmp 18) (.const (.pointer none)) t18 (.pointer none))) w fun t19 w =>
 k (Env.p e 19 t19) w)
def c6_3_s:=seq6 c6_3 c6_4 c6_60
def c6_2_s:=reg6 c6_2 c6_3 (fun N M G k e w =>
 N (xv (loadAt 25 (e 2))) w fun t16 w =>
 N (xcall (.func (.func 15) #[] #[]) [t16]) w fun t17 w =>
 M t17 fun t5 =>
 k (Env.p e 5 t5) w)
def c6_65_s:=reg6 c6_65 .ret (fun N M G k e w =>
 M (.bool false) fun t4 =>
 k (Env.p e 4 t4) w)
def c6_64_s:=cond6 c6_64 .skip 15 c6_65
def c6_63_s:=reg6 c6_63 c6_64 (fun N M G k e w =>
 N (xcall (.func (.func 14) #[] #[]) []) w fun t14 w =>
 N (xv (Op.unary .not t14)) w fun t15 w =>
 k (Env.p e 15 t15) w)
def c6_1_s:=seq6 c6_1 c6_2 c6_63
def c6_s:=reg6 c6 c6_1 (fun N M G k e w =>
 N (xv (Instr.box 25 (e 0))) w fun t2 w =>
 M (.bool false) fun t4 =>
 k (Env.p (Env.p e 2 t2) 4 t4) w)
theorem call6 {a0 a1 : Value} {w : World} {R : Value → World → Prop} (h : W3 Tryz.prog 155 V6 c6 (retQ Tryz.prog [.tmp 4] R) (argE [a0, a1]) w) : CallsN Tryz.prog 6 [a0, a1] w R :=
 callsN_of_W3 (c := c6) (rs := [.tmp 4]) V6 Tryz.ntmps6 (by rw [Tryz.results6]) mixed Tryz.func6 (by kernel_rfl) (by kernel_rfl) (by kernel_rfl) (by kernel_rfl) (by simp) h
def w3t_6:=w3t Tryz.prog 155 V6
def hk6 := aI @c6_5_s <| aI @c6_11_s <| aI @c6_20_s <| aI @c6_19_s <| aI @c6_18_s <| aI @c6_26_s <| aI @c6_35_s <| aI @c6_34_s <| aI @c6_33_s <| aI @c6_38_s <| aI @c6_37_s <| aI @c6_36_s <| aI @c6_32_s <| aI @c6_41_s <| aI @c6_40_s <| aI @c6_39_s <| aI @c6_31_s <| aI @c6_30_s <| aI @c6_29_s <| aI @c6_28_s <| aI @c6_27_s <| aI @c6_25_s <| aI @c6_43_s <| aI @c6_42_s <| aI @c6_24_s <| aI @c6_23_s <| aI @c6_22_s <| aI @c6_21_s <| aI @c6_17_s <| aI @c6_16_s <| aI @c6_15_s <| aI @c6_48_s <| aI @c6_51_s <| aI @c6_54_s <| aI @c6_57_s <| aI @c6_56_s <| aI @c6_55_s <| aI @c6_53_s <| aI @c6_52_s <| aI @c6_50_s <| aI @c6_49_s <| aI @c6_47_s <| aI @c6_46_s <| aI @c6_45_s <| aI @c6_44_s <| aI @c6_14_s <| aI @c6_13_s <| aI @c6_12_s <| aI @c6_10_s <| aI @c6_59_s <| aI @c6_58_s <| aI @c6_9_s <| aI @c6_8_s <| aI @c6_7_s <| aI @c6_6_s <| aI @c6_4_s <| aI @c6_62_s <| aI @c6_61_s <| aI @c6_60_s <| aI @c6_3_s <| aI @c6_2_s <| aI @c6_65_s <| aI @c6_64_s <| aI @c6_63_s <| aI @c6_1_s <| aI @c6_s <| @w3t_6
-- K6: ↓hk6
/-! ### vouch/vouchlaw12.NodeSqueezes -/
noncomputable def c7:Code:=(Tryz.f7.body.getD .skip)
-- K7: ↓hk7
/-! ### vouch/vouchlaw12.NodeOver -/
-- K11: ↓hk11
/-! ### vouch/vouchlaw12.taken -/
def V35 : Nat → Bool := fun i => [0, 1, 4, 5, 9, 17].elem i
noncomputable def c35:Code:=(Tryz.f35.body.getD .skip)
theorem call35 {a0 a1 : Value} {w : World} {R : Value → World → Prop} (h : W3 Tryz.prog 18 V35 c35 (retQ Tryz.prog [.tmp 4] R) (argE [a0, a1]) w) : CallsN Tryz.prog 35 [a0, a1] w R :=
 callsN_of_W3 (c := c35) (rs := [.tmp 4]) V35 Tryz.ntmps35 (by rw [Tryz.results35]) mixed Tryz.func35 (by kernel_rfl) (by kernel_rfl) (by kernel_rfl) (by kernel_rfl) (by simp) h
-- K35: ↓hk35
/-! ### vouch/vouchlaw12.kept -/
def V36 : Nat → Bool := fun i => [0, 1, 3, 4, 5, 6, 7, 8, 13, 25, 54].elem i
noncomputable def c36:Code:=(Tryz.f36.body.getD .skip)
theorem call36 {a0 a1 : Value} {w : World} {R : Value → World → Prop} (h : W3 Tryz.prog 55 V36 c36 (retQ Tryz.prog [.tmp 4] R) (argE [a0, a1]) w) : CallsN Tryz.prog 36 [a0, a1] w R :=
 callsN_of_W3 (c := c36) (rs := [.tmp 4]) V36 Tryz.ntmps36 (by rw [Tryz.results36]) mixed Tryz.func36 (by kernel_rfl) (by kernel_rfl) (by kernel_rfl) (by kernel_rfl) (by simp) h
-- K36: ↓hk36
/-! ### vouch/policy.Order -/
def V28 : Nat → Bool := fun i => [0, 2].elem i
noncomputable def c28:Code:=(Tryz.f28.body.getD .skip)
theorem call28 {a0 : Value} {w : World} {R : Value → World → Prop} (h : W3 Tryz.prog 5 V28 c28 (retQ Tryz.prog [.tmp 2] R) (argE [a0]) w) : CallsN Tryz.prog 28 [a0] w R :=
 callsN_of_W3 (c := c28) (rs := [.tmp 2]) V28 Tryz.ntmps28 (by rw [Tryz.results28]) mixed Tryz.func28 (by kernel_rfl) (by kernel_rfl) (by kernel_rfl) (by kernel_rfl) (by simp) h
-- K28: ↓hk28
end
end Go.Proofs.YtomlgkecckffeaaGreat
