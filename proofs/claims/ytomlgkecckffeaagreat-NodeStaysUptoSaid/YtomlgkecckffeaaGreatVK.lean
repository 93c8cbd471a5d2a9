/- The equations of the code of some functions, written by the printer gen3.py: each is checked by the kernel. -/
import Derived.Test.YtomlgkecckffeaaGreatCI
set_option linter.unusedVariables false
set_option linter.unusedSimpArgs false
set_option maxRecDepth 100000
namespace Go.Proofs.YtomlgkecckffeaaGreat
open Go.VW
open Go.Instr (loadAt storeAt fieldAt indexAt)
noncomputable section
set_option linter.defProp false
variable {N : NT} {T : T3T} {M : MT} {G : GT} {H : HT} {Y : YT} {k : KT} {Q : Exit → Env → World → Prop} {e el eg : Env} {w u0 u1 u2 u3 u4 u5 u6 u7 u8 u9 : World}
/-! ### vouch/vouchlaw12.NodeStays -/
def V5 : Nat → Bool := fun i => [0, 1, 2, 3, 4, 5, 7, 12, 13, 14, 15, 16, 17, 18, 19, 20, 21, 22, 23, 24, 25, 43, 65, 94, 100, 103, 126, 135, 178, 181].elem i
def block5:=@s_block Tryz.prog 192 V5
def cond5:=@s_cond Tryz.prog 192 V5
def loop5:=@s_loop Tryz.prog 192 V5
def reg5:=@s_reg Tryz.prog 192 V5
def rend5:=@s_rend Tryz.prog 192 V5
def seq5:=@s_seq Tryz.prog 192 V5
noncomputable def c5:Code:=(Tryz.f5.body.getD .skip)
noncomputable def c5_1:=cR c5
noncomputable def c5_2:=cR c5_1
noncomputable def c5_3:=cR c5_2
noncomputable def c5_4:=cR c5_3
noncomputable def c5_5:=cR c5_4
noncomputable def c5_6:=cR c5_5
noncomputable def c5_7:=cR c5_6
noncomputable def c5_8:=cR c5_7
noncomputable def c5_9:=cR c5_8
noncomputable def c5_10:=cR c5_9
noncomputable def c5_11:=cR c5_10
noncomputable def c5_12:=cR c5_11
noncomputable def c5_13:=cR c5_12
noncomputable def c5_14:=cR c5_13
noncomputable def c5_15:=cL c5_13
noncomputable def c5_16:=cR c5_15
noncomputable def c5_17:=cL c5_16
noncomputable def c5_18:=cL c5_17
noncomputable def c5_19:=cR c5_18
noncomputable def c5_20:=cR c5_19
noncomputable def c5_21:=cL c5_19
noncomputable def c5_22:=cL c5_21
noncomputable def c5_23:=cR c5_22
noncomputable def c5_24:=cR c5_23
noncomputable def c5_25:=cR c5_24
noncomputable def c5_26:=cR c5_25
noncomputable def c5_27:=cL c5_25
noncomputable def c5_28:=cR c5_27
noncomputable def c5_29:=cL c5_28
noncomputable def c5_30:=cL c5_24
noncomputable def c5_31:=cR c5_30
noncomputable def c5_32:=cL c5_31
noncomputable def c5_33:=cL c5_18
noncomputable def c5_34:=cR c5_33
noncomputable def c5_35:=cL c5_12
noncomputable def c5_36:=cR c5_35
noncomputable def c5_37:=cL c5_36
noncomputable def c5_38:=cL c5_10
noncomputable def c5_39:=cR c5_38
noncomputable def c5_40:=cL c5_39
noncomputable def c5_41:=cL c5_40
noncomputable def c5_42:=cR c5_41
noncomputable def c5_43:=cR c5_42
noncomputable def c5_44:=cL c5_42
noncomputable def c5_45:=cL c5_44
noncomputable def c5_46:=cL c5_41
noncomputable def c5_47:=cR c5_46
noncomputable def c5_48:=cL c5_9
noncomputable def c5_49:=cR c5_48
noncomputable def c5_50:=cL c5_49
noncomputable def c5_51:=cL c5_7
noncomputable def c5_52:=cR c5_51
noncomputable def c5_53:=cL c5_52
noncomputable def c5_54:=cL c5_6
noncomputable def c5_55:=cR c5_54
noncomputable def c5_56:=cL c5_55
noncomputable def c5_57:=cL c5_56
noncomputable def c5_58:=cR c5_57
noncomputable def c5_59:=cR c5_58
noncomputable def c5_60:=cL c5_58
noncomputable def c5_61:=cL c5_60
noncomputable def c5_62:=cL c5_57
noncomputable def c5_63:=cR c5_62
noncomputable def c5_64:=cL c5_1
noncomputable def c5_65:=cR c5_64
noncomputable def c5_66:=cL c5_65
def c5_14_s:=reg5 c5_14 .ret (fun N M G k e w =>
 M (.bool true) fun t12 =>
 k (Env.p e 12 t12) w)
def c5_20_s:=rend5 c5_20 (fun N M G k e w =>
 M (e 21) fun t136 =>
 N (xv (xbin .add 3 (.tmp 136) (.const (.int .i64 1)) t136 (.int .i64 1))) w fun t137 w =>
 M t137 fun t21 =>
 k (Env.p e 21 t21) w)
def c5_26_s:=rend5 c5_26 (fun N M G k e w =>
 M (e 18) fun t182 =>
 M (e 21) fun t183 =>
 N (xv (xbin .add 2 (.tmp 183) (.const (.int .i64 1)) t183 (.int .i64 1))) w fun t184 w =>
 N (xv (fieldAt 58 (e 7) 0)) w fun t185 w =>
 N (xv (loadAt 56 t185)) w fun t186 w =>
 M (e 21) fun t187 =>
 N (xv (indexAt 56 t186 t187)) w fun t188 w =>
 N (xv (loadAt 22 t188)) w fun t189 w =>
 N (xv (Instr.build 38 ([(0, t184), (1, t189)]).toArray)) w fun t190 w =>
 N (xcall (.func (.func 20) #[] #[]) [t182, t190]) w fun t191 w =>
 k e w)
def c5_29_s:=reg5 c5_29 .ret (fun N M G k e w =>
 M (.bool true) fun t12 =>
 k (Env.p e 12 t12) w)
def c5_28_s:=cond5 c5_28 .skip 181 c5_29
def c5_27_s:=reg5 c5_27 c5_28 (fun N M G k e w =>
 M (e 21) fun t179 =>
 M (e 13) fun t180 =>
 N (xv (xbin .eql 3 (.tmp 179) (.tmp 180) t179 t180)) w fun t181 w =>
 k (Env.p e 181 t181) w)
def c5_25_s:=seq5 c5_25 c5_26 c5_27
def c5_32_s:=reg5 c5_32 .ret (fun N M G k e w =>
 M (.bool false) fun t12 =>
 k (Env.p e 12 t12) w)
def c5_31_s:=cond5 c5_31 .skip 178 c5_32
def c5_30_s:=reg5 c5_30 c5_31 (fun N M G k e w =>
 M (e 25) fun t158 =>
 N (xv (Op.unary .not t158)) w fun t159 w =>
 M t159 fun t160 =>
 G (isB t160 false) (fun K => N (xv (loadAt 31 (e 23))) w K) (fun t161 w =>
 G (isB t160 false) (fun K => N (xv (fieldAt 34 (e 20) 1)) w K) (fun t162 w =>
 G (isB t160 false) (fun K => N (xv (loadAt 31 t162)) w K) (fun t163 w =>
 G (isB t160 false) (fun K => N (xv (xbin .neq 31 (.tmp 161) (.tmp 163) t161 t163)) w K) (fun t164 w =>
 N (xpick t160 (.bool true) t164) w fun t165 w =>
 M t165 fun t166 =>
 G (isB t166 false) (fun K => N (xv (fieldAt 48 (e 24) 0)) w K) (fun t167 w =>
 G (isB t166 false) (fun K => N (xv (loadAt 2 t167)) w K) (fun t168 w =>
 G (isB t166 false) (fun K => M (e 14) fun v => K v w) (fun t169 w =>
 G (isB t166 false) (fun K => N (xv (xbin .gtr 2 (.tmp 168) (.tmp 169) t168 t169)) w K) (fun t170 w =>
 N (xpick t166 (.bool true) t170) w fun t171 w =>
 M t171 fun t172 =>
 G (isB t172 false) (fun K => N (xv (fieldAt 48 (e 24) 1)) w K) (fun t173 w =>
 G (isB t172 false) (fun K => N (xv (loadAt 2 t173)) w K) (fun t174 w =>
 G (isB t172 false) (fun K => M (e 21) fun v => K v w) (fun t175 w =>
 G (isB t172 false) (fun K => N (xv (xbin .add 2 (.tmp 175) (.const (.int .i64 1)) t175 (.int .i64 1))) w K) (fun t176 w =>
 G (isB t172 false) (fun K => N (xv (xbin .neq 2 (.tmp 174) (.tmp 176) t174 t176)) w K) (fun t177 w =>
 N (xpick t172 (.bool true) t177) w fun t178 w =>
 k (Env.p e 178 t178) w) w) w) w) w) w) w) w) w) w) w) w) w) w)
def c5_24_s:=seq5 c5_24 c5_25 c5_30
def c5_23_s:=reg5 c5_23 c5_24 (fun N M G k e w =>
 M (e 18) fun t148 =>
 M (e 2) fun t149 =>
 M (e 22) fun t150 =>
 M (e 22) fun t151 =>
 N (xv (xbin .add 2 (.tmp 151) (.const (.int .i64 1)) t151 (.int .i64 1))) w fun t152 w =>
 N (xv (Instr.build 48 ([(0, t150), (1, t152)]).toArray)) w fun t153 w =>
 N (xcall (.func (.func 25) #[] #[]) [t148, t149, t153]) w fun t154 w =>
 M t154 fun t147 =>
 N (xv (Instr.extract t147 0)) w fun t155 w =>
 N (xv (Instr.extract t147 1)) w fun t156 w =>
 N (xv (Instr.extract t147 2)) w fun t157 w =>
 N (xv (Instr.alloc 31 true (.tuple #[]))) w fun t23 w =>
 N (xv (Instr.alloc 48 true (.tuple #[]))) w fun t24 w =>
 N (xu (storeAt 31 t23 t155)) w fun _ w =>
 N (xu (storeAt 48 t24 t156)) w fun _ w =>
 M t157 fun t25 =>
 k (Env.p (Env.p (Env.p e 23 t23) 24 t24) 25 t25) w)
def c5_22_s:=reg5 c5_22 c5_23 (fun N M G k e w =>
 M (e 14) fun t138 =>
 M (e 5) fun t139 =>
 N (xv (convert 5 3 t139)) w fun t140 w =>
 M (e 21) fun t141 =>
 M (e 14) fun t142 =>
 N (xv (xbin .sub 3 (.tmp 141) (.tmp 142) t141 t142)) w fun t143 w =>
 N (xv (xbin .add 3 (.tmp 143) (.const (.int .i64 1)) t143 (.int .i64 1))) w fun t144 w =>
 N (xv (xbin .rem 3 (.tmp 140) (.tmp 144) t140 t144)) w fun t145 w =>
 N (xv (xbin .add 2 (.tmp 138) (.tmp 145) t138 t145)) w fun t146 w =>
 M t146 fun t22 =>
 k (Env.p e 22 t22) w)
def c5_21_s:=block5 c5_21 c5_22 5
def c5_19_s:=seq5 c5_19 c5_20 c5_21
def c5_34_s:=cond5 c5_34 (.exit 4) 135 .skip
def c5_33_s:=reg5 c5_33 c5_34 (fun N M G k e w =>
 N (xv (fieldAt 58 (e 7) 0)) w fun t128 w =>
 N (xv (loadAt 56 t128)) w fun t129 w =>
 M (e 2) fun t130 =>
 M (e 14) fun t131 =>
 M (e 21) fun t132 =>
 N (xcall (.func (.func 26) #[] #[]) [t129, t130, t131, t132]) w fun t133 w =>
 N (xv (Instr.field 34 t133 3)) w fun t134 w =>
 N (xv (xbin .eql 2 (.tmp 134) (.const (.int .i64 4611686018427387904)) t134 (.int .i64 4611686018427387904))) w fun t135 w =>
 k (Env.p e 135 t135) w)
def c5_18_s:=seq5 c5_18 c5_19 c5_33
def c5_17_s:=loop5 c5_17 c5_18
def c5_16_s:=block5 c5_16 c5_17 4
def c5_15_s:=reg5 c5_15 c5_16 (fun N M G k e w =>
 M (e 15) fun t127 =>
 M t127 fun t21 =>
 k (Env.p e 21 t21) w)
def c5_13_s:=seq5 c5_13 c5_14 c5_15
def c5_37_s:=reg5 c5_37 .ret (fun N M G k e w =>
 M (.bool false) fun t12 =>
 k (Env.p e 12 t12) w)
def c5_36_s:=cond5 c5_36 .skip 126 c5_37
def c5_35_s:=reg5 c5_35 c5_36 (fun N M G k e w =>
 M (e 18) fun t122 =>
 N (xv (loadAt 34 (e 20))) w fun t123 w =>
 M (e 14) fun t124 =>
 N (xcall (.func (.func 18) #[] #[]) [t122, t123, t124]) w fun t125 w =>
 N (xv (Op.unary .not t125)) w fun t126 w =>
 k (Env.p e 126 t126) w)
def c5_12_s:=seq5 c5_12 c5_13 c5_35
def c5_11_s:=reg5 c5_11 c5_12 (fun N M G k e w =>
 N (xv (fieldAt 58 (e 7) 0)) w fun t116 w =>
 N (xv (loadAt 56 t116)) w fun t117 w =>
 M (e 2) fun t118 =>
 M (e 14) fun t119 =>
 M (e 14) fun t120 =>
 N (xcall (.func (.func 26) #[] #[]) [t117, t118, t119, t120]) w fun t121 w =>
 N (xv (Instr.alloc 34 true (.tuple #[]))) w fun t20 w =>
 N (xu (storeAt 34 t20 t121)) w fun _ w =>
 k (Env.p e 20 t20) w)
def c5_43_s:=rend5 c5_43 (fun N M G k e w =>
 M (e 19) fun t104 =>
 N (xv (xbin .add 3 (.tmp 104) (.const (.int .i64 1)) t104 (.int .i64 1))) w fun t105 w =>
 M t105 fun t19 =>
 k (Env.p e 19 t19) w)
def c5_45_s:=rend5 c5_45 (fun N M G k e w =>
 M (e 18) fun t106 =>
 M (e 19) fun t107 =>
 N (xv (xbin .add 2 (.tmp 107) (.const (.int .i64 1)) t107 (.int .i64 1))) w fun t108 w =>
 N (xv (fieldAt 58 (e 7) 0)) w fun t109 w =>
 N (xv (loadAt 56 t109)) w fun t110 w =>
 M (e 19) fun t111 =>
 N (xv (indexAt 56 t110 t111)) w fun t112 w =>
 N (xv (loadAt 22 t112)) w fun t113 w =>
 N (xv (Instr.build 38 ([(0, t108), (1, t113)]).toArray)) w fun t114 w =>
 N (xcall (.func (.func 20) #[] #[]) [t106, t114]) w fun t115 w =>
 k e w)
def c5_44_s:=block5 c5_44 c5_45 3
def c5_42_s:=seq5 c5_42 c5_43 c5_44
def c5_47_s:=cond5 c5_47 (.exit 2) 103 .skip
def c5_46_s:=reg5 c5_46 c5_47 (fun N M G k e w =>
 M (e 19) fun t101 =>
 M (e 15) fun t102 =>
 N (xv (xbin .lss 3 (.tmp 101) (.tmp 102) t101 t102)) w fun t103 w =>
 k (Env.p e 103 t103) w)
def c5_41_s:=seq5 c5_41 c5_42 c5_46
def c5_40_s:=loop5 c5_40 c5_41
def c5_39_s:=block5 c5_39 c5_40 2
def c5_38_s:=reg5 c5_38 c5_39 (fun N M G k e w =>
 M (.int .i64 0) fun t19 =>
 k (Env.p e 19 t19) w)
def c5_10_s:=seq5 c5_10 c5_11 c5_38
def c5_50_s:=reg5 c5_50 .ret (fun N M G k e w =>
 M (.bool false) fun t12 =>
 k (Env.p e 12 t12) w)
def c5_49_s:=cond5 c5_49 .skip 100 c5_50
def c5_48_s:=reg5 c5_48 c5_49 (fun N M G k e w =>
 M (e 18) fun t99 =>
 N (xv (xbin .eql 26 (.tmp 99) (.const (.pointer none)) t99 (.pointer none))) w fun t100 w =>
 k (Env.p e 100 t100) w)
def c5_9_s:=seq5 c5_9 c5_10 c5_48
def c5_8_s:=reg5 c5_8 c5_9 (fun N M G k e w =>
 M (e 0) fun t95 =>
 N (xv (convert 5 3 t95)) w fun t96 w =>
 N (xv (Instr.build 25 ([(0, (.int .i64 1)), (1, (.int .i64 1000)), (2, (.int .i64 1)), (3, (.int .i64 1)), (4, t96)]).toArray)) w fun t97 w =>
 N (xcall (.func (.func 15) #[] #[]) [t97]) w fun t98 w =>
 M t98 fun t18 =>
 k (Env.p e 18 t18) w)
def c5_53_s:=reg5 c5_53 .ret (fun N M G k e w =>
 M (.bool true) fun t12 =>
 k (Env.p e 12 t12) w)
def c5_52_s:=cond5 c5_52 .skip 94 c5_53
def c5_51_s:=reg5 c5_51 c5_52 (fun N M G k e w =>
 M (e 15) fun t76 =>
 M (e 14) fun t77 =>
 N (xv (xbin .gtr 3 (.tmp 76) (.tmp 77) t76 t77)) w fun t78 w =>
 M t78 fun t79 =>
 G (isB t79 true) (fun K => M (e 16) fun v => K v w) (fun t80 w =>
 G (isB t79 true) (fun K => M (e 0) fun v => K v w) (fun t81 w =>
 G (isB t79 true) (fun K => N (xv (convert 5 3 t81)) w K) (fun t82 w =>
 G (isB t79 true) (fun K => N (xv (xbin .geq 3 (.tmp 80) (.tmp 82) t80 t82)) w K) (fun t83 w =>
 N (xpick t79 t83 (.bool false)) w fun t84 w =>
 M t84 fun t85 =>
 G (isB t85 false) (fun K => N (xv (fieldAt 58 (e 7) 0)) w K) (fun t86 w =>
 G (isB t85 false) (fun K => N (xv (loadAt 56 t86)) w K) (fun t87 w =>
 G (isB t85 false) (fun K => M (e 2) fun v => K v w) (fun t88 w =>
 G (isB t85 false) (fun K => M (e 14) fun v => K v w) (fun t89 w =>
 G (isB t85 false) (fun K => M (e 15) fun v => K v w) (fun t90 w =>
 G (isB t85 false) (fun K => N (xcall (.func (.func 26) #[] #[]) [t87, t88, t89, t90]) w K) (fun t91 w =>
 G (isB t85 false) (fun K => N (xv (Instr.field 34 t91 3)) w K) (fun t92 w =>
 G (isB t85 false) (fun K => N (xv (xbin .neq 2 (.tmp 92) (.const (.int .i64 4611686018427387904)) t92 (.int .i64 4611686018427387904))) w K) (fun t93 w =>
 N (xpick t85 (.bool true) t93) w fun t94 w =>
 k (Env.p e 94 t94) w) w) w) w) w) w) w) w) w) w) w) w) w)
def c5_7_s:=seq5 c5_7 c5_8 c5_51
def c5_59_s:=rend5 c5_59 (fun N M G k e w =>
 M (e 17) fun t66 =>
 N (xv (xbin .add 3 (.tmp 66) (.const (.int .i64 1)) t66 (.int .i64 1))) w fun t67 w =>
 M t67 fun t17 =>
 k (Env.p e 17 t17) w)
def c5_61_s:=rend5 c5_61 (fun N M G k e w =>
 M (e 16) fun t68 =>
 N (xv (fieldAt 58 (e 7) 0)) w fun t69 w =>
 N (xv (loadAt 56 t69)) w fun t70 w =>
 M (e 17) fun t71 =>
 N (xv (indexAt 56 t70 t71)) w fun t72 w =>
 N (xv (loadAt 22 t72)) w fun t73 w =>
 N (builtin Builtin.len #[22] 3 ([false]).toArray ([t73]).toArray) w fun t74 w =>
 N (xv (xbin .add 3 (.tmp 68) (.tmp 74) t68 t74)) w fun t75 w =>
 M t75 fun t16 =>
 k (Env.p e 16 t16) w)
def c5_60_s:=block5 c5_60 c5_61 1
def c5_58_s:=seq5 c5_58 c5_59 c5_60
def c5_63_s:=cond5 c5_63 (.exit 0) 65 .skip
def c5_62_s:=reg5 c5_62 c5_63 (fun N M G k e w =>
 M (e 17) fun t63 =>
 M (e 15) fun t64 =>
 N (xv (xbin .lss 3 (.tmp 63) (.tmp 64) t63 t64)) w fun t65 w =>
 k (Env.p e 65 t65) w)
def c5_57_s:=seq5 c5_57 c5_58 c5_62
def c5_56_s:=loop5 c5_56 c5_57
def c5_55_s:=block5 c5_55 c5_56 0
def c5_54_s:=reg5 c5_54 c5_55 (fun N M G k e w =>
 M (e 14) fun t62 =>
 M t62 fun t17 =>
 k (Env.p e 17 t17) w)
def c5_6_s:=seq5 c5_6 c5_7 c5_54
def c5_5_s:=reg5 c5_5 c5_6 (fun N M G k e w =>
 M (.int .i64 0) fun t16 =>
 k (Env.p e 16 t16) w)
def c5_4_s:=reg5 c5_4 c5_5 (fun N M G k e w =>
 M (e 14) fun t53 =>
 M (e 4) fun t54 =>
 N (xv (convert 5 3 t54)) w fun t55 w =>
 M (e 13) fun t56 =>
 M (e 14) fun t57 =>
 N (xv (xbin .sub 3 (.tmp 56) (.tmp 57) t56 t57)) w fun t58 w =>
 N (xv (xbin .add 3 (.tmp 58) (.const (.int .i64 1)) t58 (.int .i64 1))) w fun t59 w =>
 N (xv (xbin .rem 3 (.tmp 55) (.tmp 59) t55 t59)) w fun t60 w =>
 N (xv (xbin .add 3 (.tmp 53) (.tmp 60) t53 t60)) w fun t61 w =>
 M t61 fun t15 =>
 k (Env.p e 15 t15) w)
def c5_3_s:=reg5 c5_3 c5_4 (fun N M G k e w =>
 M (e 3) fun t48 =>
 N (xv (convert 5 3 t48)) w fun t49 w =>
 M (e 13) fun t50 =>
 N (xv (xbin .add 3 (.tmp 50) (.const (.int .i64 1)) t50 (.int .i64 1))) w fun t51 w =>
 N (xv (xbin .rem 3 (.tmp 49) (.tmp 51) t49 t51)) w fun t52 w =>
 M t52 fun t14 =>
 k (Env.p e 14 t14) w)
def c5_2_s:=reg5 c5_2 c5_3 (fun N M G k e w =>
 N (xv (fieldAt 58 (e 7) 0)) w fun t45 w =>
 N (xv (loadAt 56 t45)) w fun t46 w =>
 N (builtin Builtin.len #[56] 3 ([false]).toArray ([t46]).toArray) w fun t47 w =>
 M t47 fun t13 =>
 k (Env.p e 13 t13) w)
def c5_66_s:=reg5 c5_66 .ret (fun N M G k e w =>
 N (xcall (.func (.func 14) #[] #[]) []) w fun t44 w =>
 M t44 fun t12 =>
 k (Env.p e 12 t12) w)
def c5_65_s:=cond5 c5_65 .skip 43 c5_66
def c5_64_s:=reg5 c5_64 c5_65 (fun N M G k e w =>
 N (xcall (.func (.func 14) #[] #[]) []) w fun t26 w =>
 N (xv (Op.unary .not t26)) w fun t27 w =>
 M t27 fun t28 =>
 G (isB t28 false) (fun K => N (xv (fieldAt 58 (e 7) 0)) w K) (fun t29 w =>
 G (isB t28 false) (fun K => N (xv (loadAt 56 t29)) w K) (fun t30 w =>
 G (isB t28 false) (fun K => N (builtin Builtin.len #[56] 3 ([false]).toArray ([t30]).toArray) w K) (fun t31 w =>
 G (isB t28 false) (fun K => N (xv (xbin .gtr 3 (.tmp 31) (.const (.int .i64 200)) t31 (.int .i64 200))) w K) (fun t32 w =>
 N (xpick t28 (.bool true) t32) w fun t33 w =>
 M t33 fun t34 =>
 G (isB t34 false) (fun K => M (e 2) fun v => K v w) (fun t35 w =>
 G (isB t34 false) (fun K => N (builtin Builtin.len #[9] 3 ([false]).toArray ([t35]).toArray) w K) (fun t36 w =>
 G (isB t34 false) (fun K => N (xv (xbin .lss 3 (.tmp 36) (.const (.int .i64 1)) t36 (.int .i64 1))) w K) (fun t37 w =>
 N (xpick t34 (.bool true) t37) w fun t38 w =>
 M t38 fun t39 =>
 G (isB t39 false) (fun K => M (e 2) fun v => K v w) (fun t40 w =>
 G (isB t39 false) (fun K => N (builtin Builtin.len #[9] 3 ([false]).toArray ([t40]).toArray) w K) (fun t41 w =>
 G (isB t39 false) (fun K => N (xv (xbin .gtr 3 (.tmp 41) (.const (.int .i64 32)) t41 (.int .i64 32))) w K) (fun t42 w =>
 N (xpick t39 (.bool true) t42) w fun t43 w =>
 k (Env.p e 43 t43) w) w) w) w) w) w) w) w) w) w) w)
def c5_1_s:=seq5 c5_1 c5_2 c5_64
def c5_s:=reg5 c5 c5_1 (fun N M G k e w =>
 N (xv (Instr.box 58 (e 1))) w fun t7 w =>
 M (.bool false) fun t12 =>
 k (Env.p (Env.p e 7 t7) 12 t12) w)
theorem call5 {a0 a1 a2 a3 a4 a5 : Value} {w : World} {R : Value → World → Prop} (h : W3 Tryz.prog 192 V5 c5 (retQ Tryz.prog [.tmp 12] R) (argE [a0, a1, a2, a3, a4, a5]) w) : CallsN Tryz.prog 5 [a0, a1, a2, a3, a4, a5] w R :=
 callsN_of_W3 (c := c5) (rs := [.tmp 12]) V5 Tryz.ntmps5 (by rw [Tryz.results5]) mixed Tryz.func5 (by kernel_rfl) (by kernel_rfl) (by kernel_rfl) (by kernel_rfl) (by simp) h
def w3t_5:=w3t Tryz.prog 192 V5
def hk5 := aI @c5_14_s <| aI @c5_20_s <| aI @c5_26_s <| aI @c5_29_s <| aI @c5_28_s <| aI @c5_27_s <| aI @c5_25_s <| aI @c5_32_s <| aI @c5_31_s <| aI @c5_30_s <| aI @c5_24_s <| aI @c5_23_s <| aI @c5_22_s <| aI @c5_21_s <| aI @c5_19_s <| aI @c5_34_s <| aI @c5_33_s <| aI @c5_18_s <| aI @c5_17_s <| aI @c5_16_s <| aI @c5_15_s <| aI @c5_13_s <| aI @c5_37_s <| aI @c5_36_s <| aI @c5_35_s <| aI @c5_12_s <| aI @c5_11_s <| aI @c5_43_s <| aI @c5_45_s <| aI @c5_44_s <| aI @c5_42_s <| aI @c5_47_s <| aI @c5_46_s <| aI @c5_41_s <| aI @c5_40_s <| aI @c5_39_s <| aI @c5_38_s <| aI @c5_10_s <| aI @c5_50_s <| aI @c5_49_s <| aI @c5_48_s <| aI @c5_9_s <| aI @c5_8_s <| aI @c5_53_s <| aI @c5_52_s <| aI @c5_51_s <| aI @c5_7_s <| aI @c5_59_s <| aI @c5_61_s <| aI @c5_60_s <| aI @c5_58_s <| aI @c5_63_s <| aI @c5_62_s <| aI @c5_57_s <| aI @c5_56_s <| aI @c5_55_s <| aI @c5_54_s <| aI @c5_6_s <| aI @c5_5_s <| aI @c5_4_s <| aI @c5_3_s <| aI @c5_2_s <| aI @c5_66_s <| aI @c5_65_s <| aI @c5_64_s <| aI @c5_1_s <| aI @c5_s <| @w3t_5
-- K5: ↓hk5
/-! ### vouch/vouchlaw12.truth -/
def V26 : Nat → Bool := fun i => [0, 1, 2, 3, 8, 9, 10, 11, 16, 25, 36, 39, 50].elem i
def block26:=@s_block Tryz.prog 55 V26
def cond26:=@s_cond Tryz.prog 55 V26
def loop26:=@s_loop Tryz.prog 55 V26
def reg26:=@s_reg Tryz.prog 55 V26
def rend26:=@s_rend Tryz.prog 55 V26
def seq26:=@s_seq Tryz.prog 55 V26
noncomputable def c26:Code:=(Tryz.f26.body.getD .skip)
noncomputable def c26_1:=cR c26
noncomputable def c26_2:=cR c26_1
noncomputable def c26_3:=cR c26_2
noncomputable def c26_4:=cL c26_2
noncomputable def c26_5:=cR c26_4
noncomputable def c26_6:=cL c26_5
noncomputable def c26_7:=cL c26_6
noncomputable def c26_8:=cR c26_7
noncomputable def c26_9:=cR c26_8
noncomputable def c26_10:=cL c26_8
noncomputable def c26_11:=cL c26_10
noncomputable def c26_12:=cR c26_11
noncomputable def c26_13:=cL c26_12
noncomputable def c26_14:=cL c26_13
noncomputable def c26_15:=cR c26_14
noncomputable def c26_16:=cR c26_15
noncomputable def c26_17:=cL c26_15
noncomputable def c26_18:=cL c26_17
noncomputable def c26_19:=cR c26_18
noncomputable def c26_20:=cR c26_19
noncomputable def c26_21:=cL c26_20
noncomputable def c26_22:=cR c26_21
noncomputable def c26_23:=cR c26_20
noncomputable def c26_24:=cR c26_23
noncomputable def c26_25:=cL c26_24
noncomputable def c26_26:=cL c26_18
noncomputable def c26_27:=cR c26_26
noncomputable def c26_28:=cL c26_14
noncomputable def c26_29:=cR c26_28
noncomputable def c26_30:=cL c26_7
noncomputable def c26_31:=cR c26_30
def c26_3_s:=reg26 c26_3 .ret (fun N M G k e w =>
 N (xv (loadAt 34 (e 9))) w fun t54 w =>
 N (xu (storeAt 34 (e 8) t54)) w fun _ w =>
 k e w)
def c26_9_s:=rend26 c26_9 (fun N M G k e w =>
 M (e 10) fun t17 =>
 N (xv (xbin .add 3 (.tmp 17) (.const (.int .i64 1)) t17 (.int .i64 1))) w fun t18 w =>
 M t18 fun t10 =>
 k (Env.p e 10 t10) w)
def c26_16_s:=rend26 c26_16 (fun N M G k e w =>
 M (e 11) fun t26 =>
 N (xv (xbin .add 3 (.tmp 26) (.const (.int .i64 1)) t26 (.int .i64 1))) w fun t27 w =>
 M t27 fun t11 =>
 k (Env.p e 11 t11) w)
def c26_22_s:=rend26 c26_22 (fun N M G k e w =>
 M (e 10) fun t43 =>
 N (xv (xbin .add 3 (.tmp 43) (.const (.int .i64 1)) t43 (.int .i64 1))) w fun t44 w =>
 N (xcall (.func (.func 83) #[] #[]) [t44]) w fun t45 w =>
 N (xcall (.func (.func 17) #[] #[]) [t45]) w fun t46 w =>
 N (xv (fieldAt 34 (e 9) 1)) w fun t47 w =>
 N (xu (storeAt 31 t47 t46)) w fun _ w =>
 k e w)
def c26_21_s:=reg26 c26_21 c26_22 (fun N M G k e w =>
 M (e 10) fun t40 =>
 N (xv (xbin .add 2 (.tmp 40) (.const (.int .i64 1)) t40 (.int .i64 1))) w fun t41 w =>
 N (xv (fieldAt 34 (e 9) 2)) w fun t42 w =>
 N (xu (storeAt 2 t42 t41)) w fun _ w =>
 k e w)
def c26_25_s:=rend26 c26_25 (fun N M G k e w =>
 M (e 10) fun t51 =>
 N (xv (xbin .add 2 (.tmp 51) (.const (.int .i64 1)) t51 (.int .i64 1))) w fun t52 w =>
 N (xv (fieldAt 34 (e 9) 3)) w fun t53 w =>
 N (xu (storeAt 2 t53 t52)) w fun _ w =>
 k e w)
def c26_24_s:=cond26 c26_24 .skip 50 c26_25
def c26_23_s:=reg26 c26_23 c26_24 (fun N M G k e w =>
 N (xv (fieldAt 34 (e 9) 3)) w fun t48 w =>
 N (xv (loadAt 2 t48)) w fun t49 w =>
 N (xv (xbin .eql 2 (.tmp 49) (.const (.int .i64 4611686018427387904)) t49 (.int .i64 4611686018427387904))) w fun t50 w =>
 k (Env.p e 50 t50) w)
def c26_20_s:=cond26 c26_20 c26_23 39 c26_21
def c26_19_s:=reg26 c26_19 c26_20 (fun N M G k e w =>
 M (e 10) fun t37 =>
 M (e 2) fun t38 =>
 N (xv (xbin .lss 3 (.tmp 37) (.tmp 38) t37 t38)) w fun t39 w =>
 k (Env.p e 39 t39) w)
def c26_27_s:=cond26 c26_27 .skip 36 (.exit 3)
def c26_26_s:=reg26 c26_26 c26_27 (fun N M G k e w =>
 M (e 0) fun t28 =>
 M (e 10) fun t29 =>
 N (xv (indexAt 56 t28 t29)) w fun t30 w =>
 N (xv (loadAt 22 t30)) w fun t31 w =>
 M (e 11) fun t32 =>
 N (xv (indexAt 22 t31 t32)) w fun t33 w =>
 N (xv (loadAt 9 t33)) w fun t34 w =>
 M (e 1) fun t35 =>
 N (xv (xbin .neq 9 (.tmp 34) (.tmp 35) t34 t35)) w fun t36 w =>
 k (Env.p e 36 t36) w)
def c26_18_s:=seq26 c26_18 c26_19 c26_26
def c26_17_s:=block26 c26_17 c26_18 3
def c26_15_s:=seq26 c26_15 c26_16 c26_17
def c26_29_s:=cond26 c26_29 (.exit 2) 25 .skip
def c26_28_s:=reg26 c26_28 c26_29 (fun N M G k e w =>
 M (e 11) fun t19 =>
 M (e 0) fun t20 =>
 M (e 10) fun t21 =>
 N (xv (indexAt 56 t20 t21)) w fun t22 w =>
 N (xv (loadAt 22 t22)) w fun t23 w =>
 N (builtin Builtin.len #[22] 3 ([false]).toArray ([t23]).toArray) w fun t24 w =>
 N (xv (xbin .lss 3 (.tmp 19) (.tmp 24) t19 t24)) w fun t25 w =>
 k (Env.p e 25 t25) w)
def c26_14_s:=seq26 c26_14 c26_15 c26_28
def c26_13_s:=loop26 c26_13 c26_14
def c26_12_s:=block26 c26_12 c26_13 2
def c26_11_s:=reg26 c26_11 c26_12 (fun N M G k e w =>
 M (.int .i64 0) fun t11 =>
 k (Env.p e 11 t11) w)
def c26_10_s:=block26 c26_10 c26_11 1
def c26_8_s:=seq26 c26_8 c26_9 c26_10
def c26_31_s:=cond26 c26_31 (.exit 0) 16 .skip
def c26_30_s:=reg26 c26_30 c26_31 (fun N M G k e w =>
 M (e 10) fun t14 =>
 M (e 3) fun t15 =>
 N (xv (xbin .lss 3 (.tmp 14) (.tmp 15) t14 t15)) w fun t16 w =>
 k (Env.p e 16 t16) w)
def c26_7_s:=seq26 c26_7 c26_8 c26_30
def c26_6_s:=loop26 c26_6 c26_7
def c26_5_s:=block26 c26_5 c26_6 0
def c26_4_s:=reg26 c26_4 c26_5 (fun N M G k e w =>
 M (.int .i64 0) fun t10 =>
 k (Env.p e 10 t10) w)
def c26_2_s:=seq26 c26_2 c26_3 c26_4
def c26_1_s:=reg26 c26_1 c26_2 (fun N M G k e w =>
 M (e 1) fun t12 =>
 N (xv (Instr.build 34 ([(0, t12), (3, (.int .i64 4611686018427387904))]).toArray)) w fun t13 w =>
 N (xv (Instr.alloc 34 true (.tuple #[]))) w fun t9 w =>
 N (xu (storeAt 34 t9 t13)) w fun _ w =>
 k (Env.p e 9 t9) w)
def c26_s:=reg26 c26 c26_1 (fun N M G k e w =>
 N (xv (Instr.alloc 34 true (.tuple #[]))) w fun t8 w =>
 k (Env.p e 8 t8) w)
theorem call26 {a0 a1 a2 a3 : Value} {w : World} {R : Value → World → Prop} (h : W3 Tryz.prog 55 V26 c26 (retQ Tryz.prog [.cell 8 34] R) (argE [a0, a1, a2, a3]) w) : CallsN Tryz.prog 26 [a0, a1, a2, a3] w R :=
 callsN_of_W3 (c := c26) (rs := [.cell 8 34]) V26 Tryz.ntmps26 (by rw [Tryz.results26]) mixed Tryz.func26 (by kernel_rfl) (by kernel_rfl) (by kernel_rfl) (by kernel_rfl) (by simp) h
def w3t_26:=w3t Tryz.prog 55 V26
def hk26 := aI @c26_3_s <| aI @c26_9_s <| aI @c26_16_s <| aI @c26_22_s <| aI @c26_21_s <| aI @c26_25_s <| aI @c26_24_s <| aI @c26_23_s <| aI @c26_20_s <| aI @c26_19_s <| aI @c26_27_s <| aI @c26_26_s <| aI @c26_18_s <| aI @c26_17_s <| aI @c26_15_s <| aI @c26_29_s <| aI @c26_28_s <| aI @c26_14_s <| aI @c26_13_s <| aI @c26_12_s <| aI @c26_11_s <| aI @c26_10_s <| aI @c26_8_s <| aI @c26_31_s <| aI @c26_30_s <| aI @c26_7_s <| aI @c26_6_s <| aI @c26_5_s <| aI @c26_4_s <| aI @c26_2_s <| aI @c26_1_s <| aI @c26_s <| @w3t_26
-- K26: ↓hk26
/-! ### vouch/vouchlaw12.name -/
def V83 : Nat → Bool := fun i => [0, 2].elem i
def reg83:=@s_reg Tryz.prog 7 V83
noncomputable def c83:Code:=(Tryz.f83.body.getD .skip)
noncomputable def c83_1:=cR c83
def c83_1_s:=reg83 c83_1 .ret (fun N M G k e w =>
 M (e 0) fun t3 =>
 N (xv (convert 3 5 t3)) w fun t4 w =>
 N (xv (Instr.buildSlice 199 1 ([(0, t4)]).toArray)) w fun t5 w =>
 N (xv (convert 199 9 t5)) w fun t6 w =>
 M t6 fun t2 =>
 k (Env.p e 2 t2) w)
def c83_s:=reg83 c83 c83_1 (fun N M G k e w =>
 M (.string ⟨#[]⟩) fun t2 =>
 k (Env.p e 2 t2) w)
theorem call83 {a0 : Value} {w : World} {R : Value → World → Prop} (h : W3 Tryz.prog 7 V83 c83 (retQ Tryz.prog [.tmp 2] R) (argE [a0]) w) : CallsN Tryz.prog 83 [a0] w R :=
 callsN_of_W3 (c := c83) (rs := [.tmp 2]) V83 Tryz.ntmps83 (by rw [Tryz.results83]) mixed Tryz.func83 (by kernel_rfl) (by kernel_rfl) (by kernel_rfl) (by kernel_rfl) (by simp) h
def w3t_83:=w3t Tryz.prog 7 V83
def hk83 := aI @c83_1_s <| aI @c83_s <| @w3t_83
-- K83: ↓hk83
end
end Go.Proofs.YtomlgkecckffeaaGreat
