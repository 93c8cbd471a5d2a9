/- The equations of the code of some functions, written by the printer gen3.py: each is checked by the kernel. -/
import Derived.Test.YtbbjnplellanaaaDoorQ0
import Derived.Test.YtbbjnplellanaaaDoorCI
set_option linter.unusedVariables false
set_option linter.unusedSimpArgs false
set_option maxRecDepth 100000
namespace Go.Proofs.YtbbjnplellanaaaDoor
open Go.VW
open Go.Instr (loadAt storeAt fieldAt indexAt)
noncomputable section
set_option linter.defProp false
variable {N : NT} {T : T3T} {M : MT} {G : GT} {H : HT} {Y : YT} {k : KT} {Q : Exit → Env → World → Prop} {e el eg : Env} {w u0 u1 u2 u3 u4 u5 u6 u7 u8 u9 : World}
/-! ### vouch/vouchref21.Text -/
def V13 : Nat → Bool := fun i => [0, 2, 3, 4, 5, 6, 7, 8, 12, 24, 29, 38].elem i
def block13:=@s_block Tryd.prog 41 V13
def cond13:=@s_cond Tryd.prog 41 V13
def loop13:=@s_loop Tryd.prog 41 V13
def reg13:=@s_reg Tryd.prog 41 V13
def rend13:=@s_rend Tryd.prog 41 V13
def seq13:=@s_seq Tryd.prog 41 V13
noncomputable def c13:Code:=(Tryd.f13.body.getD .skip)
noncomputable def c13_1:=cR c13
noncomputable def c13_2:=cR c13_1
noncomputable def c13_3:=cR c13_2
noncomputable def c13_4:=cR c13_3
noncomputable def c13_5:=cL c13_3
noncomputable def c13_6:=cR c13_5
noncomputable def c13_7:=cL c13_6
noncomputable def c13_8:=cL c13_2
noncomputable def c13_9:=cR c13_8
noncomputable def c13_10:=cL c13_9
noncomputable def c13_11:=cL c13_10
noncomputable def c13_12:=cR c13_11
noncomputable def c13_13:=cR c13_12
noncomputable def c13_14:=cL c13_12
noncomputable def c13_15:=cL c13_14
noncomputable def c13_16:=cR c13_15
noncomputable def c13_17:=cR c13_16
noncomputable def c13_18:=cR c13_17
noncomputable def c13_19:=cL c13_18
noncomputable def c13_20:=cR c13_19
noncomputable def c13_21:=cL c13_16
noncomputable def c13_22:=cR c13_21
noncomputable def c13_23:=cL c13_22
noncomputable def c13_24:=cL c13_11
noncomputable def c13_25:=cR c13_24
def c13_4_s:=reg13 c13_4 .ret (fun N M G k e w =>
 M (e 5) fun t39 =>
 N (xv (convert 43 9 t39)) w fun t40 w =>
 M t40 fun t2 =>
 M (.int .i64 0) fun t3 =>
 M (.int .i64 0) fun t4 =>
 k (Env.p (Env.p (Env.p e 2 t2) 3 t3) 4 t4) w)
def c13_7_s:=reg13 c13_7 .ret (fun N M G k e w =>
 M (.string ⟨#[]⟩) fun t2 =>
 M (.int .i64 0) fun t3 =>
 M (.int .i64 2) fun t4 =>
 k (Env.p (Env.p (Env.p e 2 t2) 3 t3) 4 t4) w)
def c13_6_s:=cond13 c13_6 .skip 38 c13_7
def c13_5_s:=reg13 c13_5 c13_6 (fun N M G k e w =>
 M (e 5) fun t36 =>
 N (builtin Builtin.len #[43] 3 ([false]).toArray ([t36]).toArray) w fun t37 w =>
 N (xv (xbin .gtr 3 (.tmp 37) (.const (.int .i64 65536)) t37 (.int .i64 65536))) w fun t38 w =>
 k (Env.p e 38 t38) w)
def c13_3_s:=seq13 c13_3 c13_4 c13_5
def c13_13_s:=rend13 c13_13 (fun N M G k e w =>
 M (e 6) fun t13 =>
 N (xv (xbin .add 3 (.tmp 13) (.const (.int .i64 1)) t13 (.int .i64 1))) w fun t14 w =>
 M t14 fun t6 =>
 k (Env.p e 6 t6) w)
def c13_20_s:=rend13 c13_20 (fun N M G k e w =>
 M (e 5) fun t33 =>
 N (xv (Instr.buildSlice 43 1 ([(0, (.int .u8 10))]).toArray)) w fun t34 w =>
 N (builtin Builtin.append #[43, 43] 43 ([false, false]).toArray ([t33, t34]).toArray) w fun t35 w =>
 M t35 fun t5 =>
 k (Env.p e 5 t5) w)
def c13_19_s:=reg13 c13_19 c13_20 (fun N M G k e w =>
 M (e 5) fun t30 =>
 M (e 7) fun t31 =>
 N (builtin Builtin.append #[43, 9] 43 ([false, false]).toArray ([t30, t31]).toArray) w fun t32 w =>
 M t32 fun t5 =>
 k (Env.p e 5 t5) w)
def c13_18_s:=cond13 c13_18 .skip 29 c13_19
def c13_17_s:=reg13 c13_17 c13_18 (fun N M G k e w =>
 M (e 5) fun t27 =>
 N (builtin Builtin.len #[43] 3 ([false]).toArray ([t27]).toArray) w fun t28 w =>
 N (xv (xbin .leq 3 (.tmp 28) (.const (.int .i64 65536)) t28 (.int .i64 65536))) w fun t29 w =>
 k (Env.p e 29 t29) w)
def c13_23_s:=reg13 c13_23 .ret (fun N M G k e w =>
 M (e 6) fun t25 =>
 N (xv (xbin .add 3 (.tmp 25) (.const (.int .i64 1)) t25 (.int .i64 1))) w fun t26 w =>
 M (.string ⟨#[]⟩) fun t2 =>
 M t26 fun t3 =>
 M (.int .i64 60) fun t4 =>
 k (Env.p (Env.p (Env.p e 2 t2) 3 t3) 4 t4) w)
def c13_22_s:=cond13 c13_22 .skip 24 c13_23
def c13_21_s:=reg13 c13_21 c13_22 (fun N M G k e w =>
 M (e 8) fun t23 =>
 N (xv (Op.unary .not t23)) w fun t24 w =>
 k (Env.p e 24 t24) w)
def c13_16_s:=seq13 c13_16 c13_17 c13_21
def c13_15_s:=reg13 c13_15 c13_16 (fun N M G k e w =>
 M (e 0) fun t16 =>
 M (e 6) fun t17 =>
 N (xv (indexAt 23 t16 t17)) w fun t18 w =>
 N (xv (loadAt 33 t18)) w fun t19 w =>
 N (xcall (.func (.func 26) #[] #[]) [t19]) w fun t20 w =>
 M t20 fun t15 =>
 N (xv (Instr.extract t15 0)) w fun t21 w =>
 N (xv (Instr.extract t15 1)) w fun t22 w =>
 M t21 fun t7 =>
 M t22 fun t8 =>
 k (Env.p (Env.p e 7 t7) 8 t8) w)
def c13_14_s:=block13 c13_14 c13_15 1
def c13_12_s:=seq13 c13_12 c13_13 c13_14
def c13_25_s:=cond13 c13_25 (.exit 0) 12 .skip
def c13_24_s:=reg13 c13_24 c13_25 (fun N M G k e w =>
 M (e 6) fun t9 =>
 M (e 0) fun t10 =>
 N (builtin Builtin.len #[23] 3 ([false]).toArray ([t10]).toArray) w fun t11 w =>
 N (xv (xbin .lss 3 (.tmp 9) (.tmp 11) t9 t11)) w fun t12 w =>
 k (Env.p e 12 t12) w)
def c13_11_s:=seq13 c13_11 c13_12 c13_24
def c13_10_s:=loop13 c13_10 c13_11
def c13_9_s:=block13 c13_9 c13_10 0
def c13_8_s:=reg13 c13_8 c13_9 (fun N M G k e w =>
 M (.int .i64 0) fun t6 =>
 k (Env.p e 6 t6) w)
def c13_2_s:=seq13 c13_2 c13_3 c13_8
def c13_1_s:=reg13 c13_1 c13_2 (fun N M G k e w =>
 M (.slice none 0 0) fun t5 =>
 k (Env.p e 5 t5) w)
def c13_s:=reg13 c13 c13_1 (fun N M G k e w =>
 M (.string ⟨#[]⟩) fun t2 =>
 M (.int .i64 0) fun t3 =>
 M (.int .i64 0) fun t4 =>
 k (Env.p (Env.p (Env.p e 2 t2) 3 t3) 4 t4) w)
theorem call13 {a0 : Value} {w : World} {R : Value → World → Prop} (h : W3 Tryd.prog 41 V13 c13 (retQ Tryd.prog [.tmp 2, .tmp 3, .tmp 4] R) (argE [a0]) w) : CallsN Tryd.prog 13 [a0] w R :=
 callsN_of_W3 (c := c13) (rs := [.tmp 2, .tmp 3, .tmp 4]) V13 Tryd.ntmps13 (by rw [Tryd.results13]) mixed Tryd.func13 (by kernel_rfl) (by kernel_rfl) (by kernel_rfl) (by kernel_rfl) (by simp) h
def w3t_13:=w3t Tryd.prog 41 V13
def hk13 := aI @c13_4_s <| aI @c13_7_s <| aI @c13_6_s <| aI @c13_5_s <| aI @c13_3_s <| aI @c13_13_s <| aI @c13_20_s <| aI @c13_19_s <| aI @c13_18_s <| aI @c13_17_s <| aI @c13_23_s <| aI @c13_22_s <| aI @c13_21_s <| aI @c13_16_s <| aI @c13_15_s <| aI @c13_14_s <| aI @c13_12_s <| aI @c13_25_s <| aI @c13_24_s <| aI @c13_11_s <| aI @c13_10_s <| aI @c13_9_s <| aI @c13_8_s <| aI @c13_2_s <| aI @c13_1_s <| aI @c13_s <| @w3t_13
-- K13: ↓hk13
/-! ### vouch/vouchref21.line -/
def V26 : Nat → Bool := fun i => [0, 1, 2, 3, 4, 5, 6, 7, 8, 16, 22, 27, 28, 36, 42, 53, 66, 71, 93, 128, 131].elem i
def block26:=@s_block Tryd.prog 149 V26
def cond26:=@s_cond Tryd.prog 149 V26
def loop26:=@s_loop Tryd.prog 149 V26
def reg26:=@s_reg Tryd.prog 149 V26
def rend26:=@s_rend Tryd.prog 149 V26
def seq26:=@s_seq Tryd.prog 149 V26
noncomputable def c26:Code:=(Tryd.f26.body.getD .skip)
noncomputable def c26_1:=cR c26
noncomputable def c26_2:=cR c26_1
noncomputable def c26_3:=cR c26_2
noncomputable def c26_4:=cR c26_3
noncomputable def c26_5:=cR c26_4
noncomputable def c26_6:=cR c26_5
noncomputable def c26_7:=cR c26_6
noncomputable def c26_8:=cR c26_7
noncomputable def c26_9:=cR c26_8
noncomputable def c26_10:=cR c26_9
noncomputable def c26_11:=cL c26_9
noncomputable def c26_12:=cR c26_11
noncomputable def c26_13:=cL c26_12
noncomputable def c26_14:=cL c26_13
noncomputable def c26_15:=cR c26_14
noncomputable def c26_16:=cR c26_15
noncomputable def c26_17:=cL c26_15
noncomputable def c26_18:=cL c26_17
noncomputable def c26_19:=cR c26_18
noncomputable def c26_20:=cR c26_19
noncomputable def c26_21:=cR c26_20
noncomputable def c26_22:=cL c26_21
noncomputable def c26_23:=cR c26_21
noncomputable def c26_24:=cL c26_19
noncomputable def c26_25:=cR c26_24
noncomputable def c26_26:=cL c26_25
noncomputable def c26_27:=cL c26_14
noncomputable def c26_28:=cR c26_27
noncomputable def c26_29:=cL c26_8
noncomputable def c26_30:=cR c26_29
noncomputable def c26_31:=cL c26_30
noncomputable def c26_32:=cR c26_31
noncomputable def c26_33:=cR c26_32
noncomputable def c26_34:=cL c26_32
noncomputable def c26_35:=cR c26_34
noncomputable def c26_36:=cL c26_35
noncomputable def c26_37:=cL c26_6
noncomputable def c26_38:=cR c26_37
noncomputable def c26_39:=cL c26_38
noncomputable def c26_40:=cL c26_5
noncomputable def c26_41:=cR c26_40
noncomputable def c26_42:=cL c26_41
noncomputable def c26_43:=cR c26_42
noncomputable def c26_44:=cL c26_43
noncomputable def c26_45:=cR c26_43
noncomputable def c26_46:=cR c26_45
noncomputable def c26_47:=cL c26_46
noncomputable def c26_48:=cR c26_46
noncomputable def c26_49:=cR c26_48
noncomputable def c26_50:=cL c26_49
noncomputable def c26_51:=cL c26_48
noncomputable def c26_52:=cR c26_51
noncomputable def c26_53:=cR c26_52
noncomputable def c26_54:=cR c26_53
noncomputable def c26_55:=cR c26_54
noncomputable def c26_56:=cL c26_45
noncomputable def c26_57:=cR c26_56
noncomputable def c26_58:=cR c26_57
noncomputable def c26_59:=cR c26_58
noncomputable def c26_60:=cR c26_59
noncomputable def c26_61:=cL c26_42
noncomputable def c26_62:=cR c26_61
noncomputable def c26_63:=cR c26_62
noncomputable def c26_64:=cR c26_63
noncomputable def c26_65:=cR c26_64
noncomputable def c26_66:=cR c26_65
noncomputable def c26_67:=cR c26_66
noncomputable def c26_68:=cR c26_67
noncomputable def c26_69:=cR c26_68
noncomputable def c26_70:=cL c26_3
noncomputable def c26_71:=cR c26_70
noncomputable def c26_72:=cL c26_71
noncomputable def c26_73:=cL c26_1
noncomputable def c26_74:=cR c26_73
noncomputable def c26_75:=cL c26_74
def c26_10_s:=reg26 c26_10 .ret (fun N M G k e w =>
 M (e 4) fun t148 =>
 M t148 fun t2 =>
 M (.bool true) fun t3 =>
 k (Env.p (Env.p e 2 t2) 3 t3) w)
def c26_16_s:=rend26 c26_16 (fun N M G k e w =>
 M (e 7) fun t94 =>
 N (xv (xbin .add 3 (.tmp 94) (.const (.int .i64 1)) t94 (.int .i64 1))) w fun t95 w =>
 M t95 fun t7 =>
 k (Env.p e 7 t7) w)
def c26_22_s:=rend26 c26_22 (fun N M G k e w =>
 M (e 4) fun t132 =>
 N (xv (xbin .add 9 (.tmp 132) (.const (.string ⟨#[32]⟩)) t132 (.string ⟨#[32]⟩))) w fun t133 w =>
 N (xv (fieldAt 60 (e 8) 0)) w fun t134 w =>
 N (xv (loadAt 9 t134)) w fun t135 w =>
 N (xv (xbin .add 9 (.tmp 133) (.tmp 135) t133 t135)) w fun t136 w =>
 N (xv (xbin .add 9 (.tmp 136) (.const (.string ⟨#[61]⟩)) t136 (.string ⟨#[61]⟩))) w fun t137 w =>
 N (xv (fieldAt 60 (e 8) 1)) w fun t138 w =>
 N (xv (fieldAt 58 t138 1)) w fun t139 w =>
 N (xv (loadAt 9 t139)) w fun t140 w =>
 N (xv (xbin .add 9 (.tmp 137) (.tmp 140) t137 t140)) w fun t141 w =>
 M t141 fun t4 =>
 k (Env.p e 4 t4) w)
def c26_23_s:=rend26 c26_23 (fun N M G k e w =>
 M (e 4) fun t142 =>
 N (xv (xbin .add 9 (.tmp 142) (.const (.string ⟨#[32]⟩)) t142 (.string ⟨#[32]⟩))) w fun t143 w =>
 N (xv (fieldAt 60 (e 8) 0)) w fun t144 w =>
 N (xv (loadAt 9 t144)) w fun t145 w =>
 N (xv (xbin .add 9 (.tmp 143) (.tmp 145) t143 t145)) w fun t146 w =>
 N (xv (xbin .add 9 (.tmp 146) (.const (.string ⟨#[33]⟩)) t146 (.string ⟨#[33]⟩))) w fun t147 w =>
 M t147 fun t4 =>
 k (Env.p e 4 t4) w)
def c26_21_s:=cond26 c26_21 c26_23 131 c26_22
def c26_20_s:=reg26 c26_20 c26_21 (fun N M G k e w =>
 N (xv (fieldAt 60 (e 8) 1)) w fun t129 w =>
 N (xv (fieldAt 58 t129 0)) w fun t130 w =>
 N (xv (loadAt 4 t130)) w fun t131 w =>
 k (Env.p e 131 t131) w)
def c26_26_s:=reg26 c26_26 .ret (fun N M G k e w =>
 M (.string ⟨#[]⟩) fun t2 =>
 M (.bool false) fun t3 =>
 k (Env.p (Env.p e 2 t2) 3 t3) w)
def c26_25_s:=cond26 c26_25 .skip 128 c26_26
def c26_24_s:=reg26 c26_24 c26_25 (fun N M G k e w =>
 N (xv (fieldAt 60 (e 8) 0)) w fun t101 w =>
 N (xv (loadAt 9 t101)) w fun t102 w =>
 N (xv (xbin .eql 9 (.tmp 102) (.const (.string ⟨#[]⟩)) t102 (.string ⟨#[]⟩))) w fun t103 w =>
 M t103 fun t104 =>
 G (isB t104 false) (fun K => N (xv (fieldAt 60 (e 8) 0)) w K) (fun t105 w =>
 G (isB t104 false) (fun K => N (xv (loadAt 9 t105)) w K) (fun t106 w =>
 G (isB t104 false) (fun K => N (xcall (.func (.func 47) #[] #[]) [t106, (.int .u8 32), (.int .u8 10), (.int .u8 61)]) w K) (fun t107 w =>
 G (isB t104 false) (fun K => N (xv (Op.unary .not t107)) w K) (fun t108 w =>
 N (xpick t104 (.bool true) t108) w fun t109 w =>
 M t109 fun t110 =>
 G (isB t110 false) (fun K => N (xv (fieldAt 60 (e 8) 1)) w K) (fun t111 w =>
 G (isB t110 false) (fun K => N (xv (fieldAt 58 t111 1)) w K) (fun t112 w =>
 G (isB t110 false) (fun K => N (xv (loadAt 9 t112)) w K) (fun t113 w =>
 G (isB t110 false) (fun K => N (xcall (.func (.func 47) #[] #[]) [t113, (.int .u8 32), (.int .u8 10), (.int .u8 10)]) w K) (fun t114 w =>
 G (isB t110 false) (fun K => N (xv (Op.unary .not t114)) w K) (fun t115 w =>
 N (xpick t110 (.bool true) t115) w fun t116 w =>
 M t116 fun t117 =>
 G (isB t117 false) (fun K => N (xv (fieldAt 60 (e 8) 1)) w K) (fun t118 w =>
 G (isB t117 false) (fun K => N (xv (fieldAt 58 t118 0)) w K) (fun t119 w =>
 G (isB t117 false) (fun K => N (xv (loadAt 4 t119)) w K) (fun t120 w =>
 G (isB t117 false) (fun K => N (xv (Op.unary .not t120)) w K) (fun t121 w =>
 G (isB t117 false) (fun K => M t121 fun v => K v w) (fun t122 w =>
 G (isB t122 true) (fun K => N (xv (fieldAt 60 (e 8) 1)) w K) (fun t123 w =>
 G (isB t122 true) (fun K => N (xv (fieldAt 58 t123 1)) w K) (fun t124 w =>
 G (isB t122 true) (fun K => N (xv (loadAt 9 t124)) w K) (fun t125 w =>
 G (isB t122 true) (fun K => N (xv (xbin .neq 9 (.tmp 125) (.const (.string ⟨#[]⟩)) t125 (.string ⟨#[]⟩))) w K) (fun t126 w =>
 G (isB t117 false) (fun K => N (xpick t122 t126 (.bool false)) w K) (fun t127 w =>
 N (xpick t117 (.bool true) t127) w fun t128 w =>
 k (Env.p e 128 t128) w) w) w) w) w) w) w) w) w) w) w) w) w) w) w) w) w) w) w) w)
def c26_19_s:=seq26 c26_19 c26_20 c26_24
def c26_18_s:=reg26 c26_18 c26_19 (fun N M G k e w =>
 N (xv (fieldAt 33 (e 1) 6)) w fun t96 w =>
 N (xv (loadAt 31 t96)) w fun t97 w =>
 M (e 7) fun t98 =>
 N (xv (indexAt 31 t97 t98)) w fun t99 w =>
 N (xv (loadAt 60 t99)) w fun t100 w =>
 N (xv (Instr.alloc 60 true (.tuple #[]))) w fun t8 w =>
 N (xu (storeAt 60 t8 t100)) w fun _ w =>
 k (Env.p e 8 t8) w)
def c26_17_s:=block26 c26_17 c26_18 2
def c26_15_s:=seq26 c26_15 c26_16 c26_17
def c26_28_s:=cond26 c26_28 (.exit 1) 93 .skip
def c26_27_s:=reg26 c26_27 c26_28 (fun N M G k e w =>
 N (xv (fieldAt 33 (e 1) 0)) w fun t84 w =>
 N (xv (loadAt 3 t84)) w fun t85 w =>
 N (xv (xbin .eql 3 (.tmp 85) (.const (.int .i64 2)) t85 (.int .i64 2))) w fun t86 w =>
 M t86 fun t87 =>
 G (isB t87 true) (fun K => M (e 7) fun v => K v w) (fun t88 w =>
 G (isB t87 true) (fun K => N (xv (fieldAt 33 (e 1) 6)) w K) (fun t89 w =>
 G (isB t87 true) (fun K => N (xv (loadAt 31 t89)) w K) (fun t90 w =>
 G (isB t87 true) (fun K => N (builtin Builtin.len #[31] 3 ([false]).toArray ([t90]).toArray) w K) (fun t91 w =>
 G (isB t87 true) (fun K => N (xv (xbin .lss 3 (.tmp 88) (.tmp 91) t88 t91)) w K) (fun t92 w =>
 N (xpick t87 t92 (.bool false)) w fun t93 w =>
 k (Env.p e 93 t93) w) w) w) w) w) w)
def c26_14_s:=seq26 c26_14 c26_15 c26_27
def c26_13_s:=loop26 c26_13 c26_14
def c26_12_s:=block26 c26_12 c26_13 1
def c26_11_s:=reg26 c26_11 c26_12 (fun N M G k e w =>
 M (.int .i64 0) fun t7 =>
 k (Env.p e 7 t7) w)
def c26_9_s:=seq26 c26_9 c26_10 c26_11
def c26_33_s:=reg26 c26_33 .ret (fun N M G k e w =>
 M (e 4) fun t74 =>
 N (xv (xbin .add 9 (.tmp 74) (.const (.string ⟨#[32]⟩)) t74 (.string ⟨#[32]⟩))) w fun t75 w =>
 M (e 6) fun t76 =>
 N (xv (xbin .add 9 (.tmp 75) (.tmp 76) t75 t76)) w fun t77 w =>
 M (e 6) fun t78 =>
 N (xv (xbin .neq 9 (.tmp 78) (.const (.string ⟨#[]⟩)) t78 (.string ⟨#[]⟩))) w fun t79 w =>
 M t79 fun t80 =>
 G (isB t80 true) (fun K => M (e 6) fun v => K v w) (fun t81 w =>
 G (isB t80 true) (fun K => N (xcall (.func (.func 47) #[] #[]) [t81, (.int .u8 32), (.int .u8 10), (.int .u8 10)]) w K) (fun t82 w =>
 N (xpick t80 t82 (.bool false)) w fun t83 w =>
 M t77 fun t2 =>
 M t83 fun t3 =>
 k (Env.p (Env.p e 2 t2) 3 t3) w) w) w)
def c26_36_s:=rend26 c26_36 (fun N M G k e w =>
 N (xv (fieldAt 33 (e 1) 7)) w fun t72 w =>
 N (xv (loadAt 9 t72)) w fun t73 w =>
 M t73 fun t6 =>
 k (Env.p e 6 t6) w)
def c26_35_s:=cond26 c26_35 .skip 71 c26_36
def c26_34_s:=reg26 c26_34 c26_35 (fun N M G k e w =>
 N (xv (fieldAt 33 (e 1) 0)) w fun t69 w =>
 N (xv (loadAt 3 t69)) w fun t70 w =>
 N (xv (xbin .eql 3 (.tmp 70) (.const (.int .i64 16)) t70 (.int .i64 16))) w fun t71 w =>
 k (Env.p e 71 t71) w)
def c26_32_s:=seq26 c26_32 c26_33 c26_34
def c26_31_s:=reg26 c26_31 c26_32 (fun N M G k e w =>
 N (xv (fieldAt 33 (e 1) 5)) w fun t67 w =>
 N (xv (loadAt 9 t67)) w fun t68 w =>
 M t68 fun t6 =>
 k (Env.p e 6 t6) w)
def c26_30_s:=cond26 c26_30 .skip 66 c26_31
def c26_29_s:=reg26 c26_29 c26_30 (fun N M G k e w =>
 N (xv (fieldAt 33 (e 1) 0)) w fun t59 w =>
 N (xv (loadAt 3 t59)) w fun t60 w =>
 N (xv (xbin .eql 3 (.tmp 60) (.const (.int .i64 5)) t60 (.int .i64 5))) w fun t61 w =>
 M t61 fun t62 =>
 G (isB t62 false) (fun K => N (xv (fieldAt 33 (e 1) 0)) w K) (fun t63 w =>
 G (isB t62 false) (fun K => N (xv (loadAt 3 t63)) w K) (fun t64 w =>
 G (isB t62 false) (fun K => N (xv (xbin .eql 3 (.tmp 64) (.const (.int .i64 16)) t64 (.int .i64 16))) w K) (fun t65 w =>
 N (xpick t62 (.bool true) t65) w fun t66 w =>
 k (Env.p e 66 t66) w) w) w) w)
def c26_8_s:=seq26 c26_8 c26_9 c26_29
def c26_7_s:=reg26 c26_7 c26_8 (fun N M G k e w =>
 M (e 4) fun t54 =>
 N (xv (xbin .add 9 (.tmp 54) (.const (.string ⟨#[32]⟩)) t54 (.string ⟨#[32]⟩))) w fun t55 w =>
 M (e 5) fun t56 =>
 N (xcall (.func (.func 46) #[] #[]) [t56]) w fun t57 w =>
 N (xv (xbin .add 9 (.tmp 55) (.tmp 57) t55 t57)) w fun t58 w =>
 M t58 fun t4 =>
 k (Env.p e 4 t4) w)
def c26_39_s:=reg26 c26_39 .ret (fun N M G k e w =>
 M (.string ⟨#[]⟩) fun t2 =>
 M (.bool false) fun t3 =>
 k (Env.p (Env.p e 2 t2) 3 t3) w)
def c26_38_s:=cond26 c26_38 .skip 53 c26_39
def c26_37_s:=reg26 c26_37 c26_38 (fun N M G k e w =>
 M (e 5) fun t48 =>
 N (xv (xbin .lss 3 (.tmp 48) (.const (.int .i64 0)) t48 (.int .i64 0))) w fun t49 w =>
 M t49 fun t50 =>
 G (isB t50 false) (fun K => M (e 5) fun v => K v w) (fun t51 w =>
 G (isB t50 false) (fun K => N (xv (xbin .gtr 3 (.tmp 51) (.const (.int .i64 999999999)) t51 (.int .i64 999999999))) w K) (fun t52 w =>
 N (xpick t50 (.bool true) t52) w fun t53 w =>
 k (Env.p e 53 t53) w) w) w)
def c26_6_s:=seq26 c26_6 c26_7 c26_37
def c26_44_s:=rend26 c26_44 (fun N M G k e w =>
 N (xv (fieldAt 33 (e 1) 1)) w fun t34 w =>
 N (xv (loadAt 3 t34)) w fun t35 w =>
 M t35 fun t5 =>
 k (Env.p e 5 t5) w)
def c26_47_s:=rend26 c26_47 (fun N M G k e w =>
 N (xv (fieldAt 33 (e 1) 2)) w fun t40 w =>
 N (xv (loadAt 3 t40)) w fun t41 w =>
 M t41 fun t5 =>
 k (Env.p e 5 t5) w)
def c26_50_s:=rend26 c26_50 (fun N M G k e w =>
 N (xv (fieldAt 33 (e 1) 4)) w fun t46 w =>
 N (xv (loadAt 3 t46)) w fun t47 w =>
 M t47 fun t5 =>
 k (Env.p e 5 t5) w)
def c26_49_s:=cond26 c26_49 .skip 42 c26_50
def c26_55_s:=rend26 c26_55 (fun N M G k e w =>
 N (xv (xbin .eql 3 (.tmp 27) (.const (.int .i64 10)) (e 27) (.int .i64 10))) w fun t45 w =>
 M t45 fun t42 =>
 k (Env.p e 42 t42) w)
def c26_54_s:=cond26 c26_54 c26_55 42 .skip
def c26_53_s:=reg26 c26_53 c26_54 (fun N M G k e w =>
 N (xv (xbin .eql 3 (.tmp 27) (.const (.int .i64 9)) (e 27) (.int .i64 9))) w fun t44 w =>
 M t44 fun t42 =>
 k (Env.p e 42 t42) w)
def c26_52_s:=cond26 c26_52 c26_53 42 .skip
def c26_51_s:=reg26 c26_51 c26_52 (fun N M G k e w =>
 N (xv (xbin .eql 3 (.tmp 27) (.const (.int .i64 8)) (e 27) (.int .i64 8))) w fun t43 w =>
 M t43 fun t42 =>
 k (Env.p e 42 t42) w)
def c26_48_s:=seq26 c26_48 c26_49 c26_51
def c26_46_s:=cond26 c26_46 c26_48 36 c26_47
def c26_60_s:=rend26 c26_60 (fun N M G k e w =>
 N (xv (xbin .eql 3 (.tmp 27) (.const (.int .i64 7)) (e 27) (.int .i64 7))) w fun t39 w =>
 M t39 fun t36 =>
 k (Env.p e 36 t36) w)
def c26_59_s:=cond26 c26_59 c26_60 36 .skip
def c26_58_s:=reg26 c26_58 c26_59 (fun N M G k e w =>
 N (xv (xbin .eql 3 (.tmp 27) (.const (.int .i64 6)) (e 27) (.int .i64 6))) w fun t38 w =>
 M t38 fun t36 =>
 k (Env.p e 36 t36) w)
def c26_57_s:=cond26 c26_57 c26_58 36 .skip
def c26_56_s:=reg26 c26_56 c26_57 (fun N M G k e w =>
 N (xv (xbin .eql 3 (.tmp 27) (.const (.int .i64 5)) (e 27) (.int .i64 5))) w fun t37 w =>
 M t37 fun t36 =>
 k (Env.p e 36 t36) w)
def c26_45_s:=seq26 c26_45 c26_46 c26_56
def c26_43_s:=cond26 c26_43 c26_45 28 c26_44
def c26_69_s:=rend26 c26_69 (fun N M G k e w =>
 N (xv (xbin .eql 3 (.tmp 27) (.const (.int .i64 16)) (e 27) (.int .i64 16))) w fun t33 w =>
 M t33 fun t28 =>
 k (Env.p e 28 t28) w)
def c26_68_s:=cond26 c26_68 c26_69 28 .skip
def c26_67_s:=reg26 c26_67 c26_68 (fun N M G k e w =>
 N (xv (xbin .eql 3 (.tmp 27) (.const (.int .i64 15)) (e 27) (.int .i64 15))) w fun t32 w =>
 M t32 fun t28 =>
 k (Env.p e 28 t28) w)
def c26_66_s:=cond26 c26_66 c26_67 28 .skip
def c26_65_s:=reg26 c26_65 c26_66 (fun N M G k e w =>
 N (xv (xbin .eql 3 (.tmp 27) (.const (.int .i64 4)) (e 27) (.int .i64 4))) w fun t31 w =>
 M t31 fun t28 =>
 k (Env.p e 28 t28) w)
def c26_64_s:=cond26 c26_64 c26_65 28 .skip
def c26_63_s:=reg26 c26_63 c26_64 (fun N M G k e w =>
 N (xv (xbin .eql 3 (.tmp 27) (.const (.int .i64 3)) (e 27) (.int .i64 3))) w fun t30 w =>
 M t30 fun t28 =>
 k (Env.p e 28 t28) w)
def c26_62_s:=cond26 c26_62 c26_63 28 .skip
def c26_61_s:=reg26 c26_61 c26_62 (fun N M G k e w =>
 N (xv (xbin .eql 3 (.tmp 27) (.const (.int .i64 2)) (e 27) (.int .i64 2))) w fun t29 w =>
 M t29 fun t28 =>
 k (Env.p e 28 t28) w)
def c26_42_s:=seq26 c26_42 c26_43 c26_61
def c26_41_s:=block26 c26_41 c26_42 0
def c26_40_s:=reg26 c26_40 c26_41 (fun N M G k e w =>
 N (xv (fieldAt 33 (e 1) 0)) w fun t26 w =>
 N (xv (loadAt 3 t26)) w fun t27 w =>
 k (Env.p e 27 t27) w)
def c26_5_s:=seq26 c26_5 c26_6 c26_40
def c26_4_s:=reg26 c26_4 c26_5 (fun N M G k e w =>
 N (xv (fieldAt 33 (e 1) 3)) w fun t24 w =>
 N (xv (loadAt 3 t24)) w fun t25 w =>
 M t25 fun t5 =>
 k (Env.p e 5 t5) w)
def c26_72_s:=reg26 c26_72 .ret (fun N M G k e w =>
 M (e 4) fun t23 =>
 M t23 fun t2 =>
 M (.bool true) fun t3 =>
 k (Env.p (Env.p e 2 t2) 3 t3) w)
def c26_71_s:=cond26 c26_71 .skip 22 c26_72
def c26_70_s:=reg26 c26_70 c26_71 (fun N M G k e w =>
 N (xv (fieldAt 33 (e 1) 0)) w fun t20 w =>
 N (xv (loadAt 3 t20)) w fun t21 w =>
 N (xv (xbin .eql 3 (.tmp 21) (.const (.int .i64 1)) t21 (.int .i64 1))) w fun t22 w =>
 k (Env.p e 22 t22) w)
def c26_3_s:=seq26 c26_3 c26_4 c26_70
def c26_2_s:=reg26 c26_2 c26_3 (fun N M G k e w =>
 N (xv (fieldAt 33 (e 1) 0)) w fun t17 w =>
 N (xv (loadAt 3 t17)) w fun t18 w =>
 N (xcall (.func (.func 45) #[] #[]) [t18]) w fun t19 w =>
 M t19 fun t4 =>
 k (Env.p e 4 t4) w)
def c26_75_s:=reg26 c26_75 .ret (fun N M G k e w =>
 M (.string ⟨#[]⟩) fun t2 =>
 M (.bool false) fun t3 =>
 k (Env.p (Env.p e 2 t2) 3 t3) w)
def c26_74_s:=cond26 c26_74 .skip 16 c26_75
def c26_73_s:=reg26 c26_73 c26_74 (fun N M G k e w =>
 N (xv (fieldAt 33 (e 1) 0)) w fun t9 w =>
 N (xv (loadAt 3 t9)) w fun t10 w =>
 N (xv (xbin .lss 3 (.tmp 10) (.const (.int .i64 1)) t10 (.int .i64 1))) w fun t11 w =>
 M t11 fun t12 =>
 G (isB t12 false) (fun K => N (xv (fieldAt 33 (e 1) 0)) w K) (fun t13 w =>
 G (isB t12 false) (fun K => N (xv (loadAt 3 t13)) w K) (fun t14 w =>
 G (isB t12 false) (fun K => N (xv (xbin .gtr 3 (.tmp 14) (.const (.int .i64 16)) t14 (.int .i64 16))) w K) (fun t15 w =>
 N (xpick t12 (.bool true) t15) w fun t16 w =>
 k (Env.p e 16 t16) w) w) w) w)
def c26_1_s:=seq26 c26_1 c26_2 c26_73
def c26_s:=reg26 c26 c26_1 (fun N M G k e w =>
 N (xv (Instr.box 33 (e 0))) w fun t1 w =>
 M (.string ⟨#[]⟩) fun t2 =>
 M (.bool false) fun t3 =>
 k (Env.p (Env.p (Env.p e 1 t1) 2 t2) 3 t3) w)
theorem call26 {a0 : Value} {w : World} {R : Value → World → Prop} (h : W3 Tryd.prog 149 V26 c26 (retQ Tryd.prog [.tmp 2, .tmp 3] R) (argE [a0]) w) : CallsN Tryd.prog 26 [a0] w R :=
 callsN_of_W3 (c := c26) (rs := [.tmp 2, .tmp 3]) V26 Tryd.ntmps26 (by rw [Tryd.results26]) mixed Tryd.func26 (by kernel_rfl) (by kernel_rfl) (by kernel_rfl) (by kernel_rfl) (by simp) h
def w3t_26:=w3t Tryd.prog 149 V26
def hk26 := aI @c26_10_s <| aI @c26_16_s <| aI @c26_22_s <| aI @c26_23_s <| aI @c26_21_s <| aI @c26_20_s <| aI @c26_26_s <| aI @c26_25_s <| aI @c26_24_s <| aI @c26_19_s <| aI @c26_18_s <| aI @c26_17_s <| aI @c26_15_s <| aI @c26_28_s <| aI @c26_27_s <| aI @c26_14_s <| aI @c26_13_s <| aI @c26_12_s <| aI @c26_11_s <| aI @c26_9_s <| aI @c26_33_s <| aI @c26_36_s <| aI @c26_35_s <| aI @c26_34_s <| aI @c26_32_s <| aI @c26_31_s <| aI @c26_30_s <| aI @c26_29_s <| aI @c26_8_s <| aI @c26_7_s <| aI @c26_39_s <| aI @c26_38_s <| aI @c26_37_s <| aI @c26_6_s <| aI @c26_44_s <| aI @c26_47_s <| aI @c26_50_s <| aI @c26_49_s <| aI @c26_55_s <| aI @c26_54_s <| aI @c26_53_s <| aI @c26_52_s <| aI @c26_51_s <| aI @c26_48_s <| aI @c26_46_s <| aI @c26_60_s <| aI @c26_59_s <| aI @c26_58_s <| aI @c26_57_s <| aI @c26_56_s <| aI @c26_45_s <| aI @c26_43_s <| aI @c26_69_s <| aI @c26_68_s <| aI @c26_67_s <| aI @c26_66_s <| aI @c26_65_s <| aI @c26_64_s <| aI @c26_63_s <| aI @c26_62_s <| aI @c26_61_s <| aI @c26_42_s <| aI @c26_41_s <| aI @c26_40_s <| aI @c26_5_s <| aI @c26_4_s <| aI @c26_72_s <| aI @c26_71_s <| aI @c26_70_s <| aI @c26_3_s <| aI @c26_2_s <| aI @c26_75_s <| aI @c26_74_s <| aI @c26_73_s <| aI @c26_1_s <| aI @c26_s <| @w3t_26
-- K26: ↓hk26
/-! ### vouch/vouchref21.name -/
def V45 : Nat → Bool := fun i => [0, 2].elem i
def reg45:=@s_reg Tryd.prog 7 V45
noncomputable def c45:Code:=(Tryd.f45.body.getD .skip)
noncomputable def c45_1:=cR c45
def c45_1_s:=reg45 c45_1 .ret (fun N M G k e w =>
 N (xv (Instr.buildSlice 47 17 ([(0, (.string ⟨#[]⟩)), (1, (.string ⟨#[111, 112, 101, 110]⟩)), (2, (.string ⟨#[99, 111, 109, 109, 105, 116]⟩)), (3, (.string ⟨#[97, 103, 97, 105, 110]⟩)), (4, (.string ⟨#[98, 101, 103, 105, 110]⟩)), (5, (.string ⟨#[114, 101, 97, 100]⟩)), (6, (.string ⟨#[114, 101, 116, 114, 121]⟩)), (7, (.string ⟨#[102, 105, 110, 105, 115, 104]⟩)), (8, (.string ⟨#[100, 101, 108, 105, 118, 101, 114]⟩)), (9, (.string ⟨#[100, 114, 111, 112]⟩)), (10, (.string ⟨#[100, 111, 117, 98, 108, 101]⟩)), (11, (.string ⟨#[99, 114, 97, 115, 104]⟩)), (12, (.string ⟨#[114, 101, 115, 116, 97, 114, 116]⟩)), (13, (.string ⟨#[110, 117, 100, 103, 101]⟩)), (14, (.string ⟨#[115, 113, 117, 101, 101, 122, 101]⟩)), (15, (.string ⟨#[116, 111, 107, 101, 110]⟩)), (16, (.string ⟨#[106, 111, 105, 110]⟩))]).toArray)) w fun t3 w =>
 M (e 0) fun t4 =>
 N (xv (indexAt 47 t3 t4)) w fun t5 w =>
 N (xv (loadAt 9 t5)) w fun t6 w =>
 M t6 fun t2 =>
 k (Env.p e 2 t2) w)
def c45_s:=reg45 c45 c45_1 (fun N M G k e w =>
 M (.string ⟨#[]⟩) fun t2 =>
 k (Env.p e 2 t2) w)
theorem call45 {a0 : Value} {w : World} {R : Value → World → Prop} (h : W3 Tryd.prog 7 V45 c45 (retQ Tryd.prog [.tmp 2] R) (argE [a0]) w) : CallsN Tryd.prog 45 [a0] w R :=
 callsN_of_W3 (c := c45) (rs := [.tmp 2]) V45 Tryd.ntmps45 (by rw [Tryd.results45]) mixed Tryd.func45 (by kernel_rfl) (by kernel_rfl) (by kernel_rfl) (by kernel_rfl) (by simp) h
def w3t_45:=w3t Tryd.prog 7 V45
def hk45 := aI @c45_1_s <| aI @c45_s <| @w3t_45
-- K45: ↓hk45
/-! ### vouch/vouchref21.Decimal -/
def V46 : Nat → Bool := fun i => [0, 2, 4, 10].elem i
def cond46:=@s_cond Tryd.prog 26 V46
def drw46:=@s_drw Tryd.prog 26 V46
def reg46:=@s_reg Tryd.prog 26 V46
def seq46:=@s_seq Tryd.prog 26 V46
noncomputable def c46:Code:=(Tryd.f46.body.getD .skip)
noncomputable def c46_1:=cR c46
noncomputable def c46_2:=cR c46_1
noncomputable def c46_3:=cR c46_2
noncomputable def b46_5:List Row:=[(0, 0, 1, 17, true), (1, 1, 65536, 18, true), (2, 3, 131072, 19, false), (0, 0, 1, 20, true), (8, 8, 524288, 21, true), (16, 24, 1048576, 22, true), (32, 56, 2097152, 23, true), (64, 120, 4194304, 24, false), (128, 248, 8388608, 25, true), (260, 511, 17039360, 26, true), (1023, 1023, 33554432, 3, true)]
noncomputable def c46_4:=cL c46_2
noncomputable def c46_5:=cR c46_4
noncomputable def c46_6:=cL c46_5
noncomputable def c46_7:=cL c46_1
noncomputable def c46_8:=cR c46_7
noncomputable def c46_9:=cL c46_8
def c46_3_s:=drw46 c46_3 .ret b46_5 11 (fun N T M G H Y k e w =>
 M (e 0) fun t16 =>
 T (FrX none w) (xv (xbin .quo 2 (.tmp 16) (.const (.int .i64 10)) t16 (.int .i64 10))) fun t17 =>
 M (e 0) fun t19 =>
 T (FrX none w) (xv (xbin .rem 2 (.tmp 19) (.const (.int .i64 10)) t19 (.int .i64 10))) fun t20 =>
 T (FrX none w) (xv (xbin .add 2 (.const (.int .i64 48)) (.tmp 20) (.int .i64 48) t20)) fun t21 =>
 T (FrX (some []) w) (xv (convert 2 5 t21)) fun t22 =>
 (N (xcall (.func (.func 46) #[] #[]) [t17]) w fun t18 w2 =>
 Y true (xv (convert 2 5 t21)) t22 w w2 ∧ (N (xv (Instr.buildSlice 43 1 ([(0, t22)]).toArray)) w2 fun t23 w7 =>
 T (FrX (some []) w7) (xv (convert 43 9 t23)) fun t24 =>
 T (FrX none w7) (xv (xbin .add 9 (.tmp 18) (.tmp 24) t18 t24)) fun t25 =>
 M t25 fun t2 =>
 k (Env.p e 2 t2) w7)) ∧ (N (xv (Instr.buildSlice 43 1 ([(0, t22)]).toArray)) w fun t23 w7 =>
 T (FrX (some []) w7) (xv (convert 43 9 t23)) fun t24 =>
 N (xcall (.func (.func 46) #[] #[]) [t17]) w7 fun t18 w2 =>
 Y true (xv (convert 43 9 t23)) t24 w7 w2 ∧ (T (FrX none w2) (xv (xbin .add 9 (.tmp 18) (.tmp 24) t18 t24)) fun t25 =>
 M t25 fun t2 =>
 k (Env.p e 2 t2) w2)))
def c46_6_s:=reg46 c46_6 .ret (fun N M G k e w =>
 M (e 0) fun t11 =>
 N (xv (xbin .add 2 (.const (.int .i64 48)) (.tmp 11) (.int .i64 48) t11)) w fun t12 w =>
 N (xv (convert 2 5 t12)) w fun t13 w =>
 N (xv (Instr.buildSlice 43 1 ([(0, t13)]).toArray)) w fun t14 w =>
 N (xv (convert 43 9 t14)) w fun t15 w =>
 M t15 fun t2 =>
 k (Env.p e 2 t2) w)
def c46_5_s:=cond46 c46_5 .skip 10 c46_6
def c46_4_s:=reg46 c46_4 c46_5 (fun N M G k e w =>
 M (e 0) fun t9 =>
 N (xv (xbin .lss 2 (.tmp 9) (.const (.int .i64 10)) t9 (.int .i64 10))) w fun t10 w =>
 k (Env.p e 10 t10) w)
def c46_2_s:=seq46 c46_2 c46_3 c46_4
def c46_9_s:=reg46 c46_9 .ret (fun N M G k e w =>
 M (e 0) fun t5 =>
 N (xv (Op.unary .neg t5)) w fun t6 w =>
 N (xcall (.func (.func 46) #[] #[]) [t6]) w fun t7 w =>
 N (xv (xbin .add 9 (.const (.string ⟨#[45]⟩)) (.tmp 7) (.string ⟨#[45]⟩) t7)) w fun t8 w =>
 M t8 fun t2 =>
 k (Env.p e 2 t2) w)
def c46_8_s:=cond46 c46_8 .skip 4 c46_9
def c46_7_s:=reg46 c46_7 c46_8 (fun N M G k e w =>
 M (e 0) fun t3 =>
 N (xv (xbin .lss 2 (.tmp 3) (.const (.int .i64 0)) t3 (.int .i64 0))) w fun t4 w =>
 k (Env.p e 4 t4) w)
def c46_1_s:=seq46 c46_1 c46_2 c46_7
def c46_s:=reg46 c46 c46_1 (fun N M G k e w =>
 M (.string ⟨#[]⟩) fun t2 =>
 k (Env.p e 2 t2) w)
theorem call46 {a0 : Value} {w : World} {R : Value → World → Prop} (h : W3 Tryd.prog 26 V46 c46 (retQ Tryd.prog [.tmp 2] R) (argE [a0]) w) : CallsN Tryd.prog 46 [a0] w R :=
 callsN_of_W3 (c := c46) (rs := [.tmp 2]) V46 Tryd.ntmps46 (by rw [Tryd.results46]) mixed Tryd.func46 (by kernel_rfl) (by kernel_rfl) (by kernel_rfl) (by kernel_rfl) (by simp) h
def w3t_46:=w3t Tryd.prog 26 V46
def hk46 := aI @c46_3_s <| aI @c46_6_s <| aI @c46_5_s <| aI @c46_4_s <| aI @c46_2_s <| aI @c46_9_s <| aI @c46_8_s <| aI @c46_7_s <| aI @c46_1_s <| aI @c46_s <| @w3t_46
-- K46: ↓hk46
/-! ### vouch/vouchref21.without -/
def V47 : Nat → Bool := fun i => [0, 1, 2, 3, 8, 9, 13, 34].elem i
def block47:=@s_block Tryd.prog 35 V47
def cond47:=@s_cond Tryd.prog 35 V47
def loop47:=@s_loop Tryd.prog 35 V47
def reg47:=@s_reg Tryd.prog 35 V47
def rend47:=@s_rend Tryd.prog 35 V47
def seq47:=@s_seq Tryd.prog 35 V47
noncomputable def c47:Code:=(Tryd.f47.body.getD .skip)
noncomputable def c47_1:=cR c47
noncomputable def c47_2:=cR c47_1
noncomputable def c47_3:=cL c47_1
noncomputable def c47_4:=cR c47_3
noncomputable def c47_5:=cL c47_4
noncomputable def c47_6:=cL c47_5
noncomputable def c47_7:=cR c47_6
noncomputable def c47_8:=cR c47_7
noncomputable def c47_9:=cL c47_7
noncomputable def c47_10:=cL c47_9
noncomputable def c47_11:=cR c47_10
noncomputable def c47_12:=cL c47_11
noncomputable def c47_13:=cL c47_6
noncomputable def c47_14:=cR c47_13
def c47_2_s:=reg47 c47_2 .ret (fun N M G k e w =>
 M (.bool true) fun t8 =>
 k (Env.p e 8 t8) w)
def c47_8_s:=rend47 c47_8 (fun N M G k e w =>
 M (e 9) fun t14 =>
 N (xv (xbin .add 3 (.tmp 14) (.const (.int .i64 1)) t14 (.int .i64 1))) w fun t15 w =>
 M t15 fun t9 =>
 k (Env.p e 9 t9) w)
def c47_12_s:=reg47 c47_12 .ret (fun N M G k e w =>
 M (.bool false) fun t8 =>
 k (Env.p e 8 t8) w)
def c47_11_s:=cond47 c47_11 .skip 34 c47_12
def c47_10_s:=reg47 c47_10 c47_11 (fun N M G k e w =>
 M (e 0) fun t16 =>
 M (e 9) fun t17 =>
 N (xv (Instr.index 9 t16 t17)) w fun t18 w =>
 M (e 1) fun t19 =>
 N (xv (xbin .eql 5 (.tmp 18) (.tmp 19) t18 t19)) w fun t20 w =>
 M t20 fun t21 =>
 G (isB t21 false) (fun K => M (e 0) fun v => K v w) (fun t22 w =>
 G (isB t21 false) (fun K => M (e 9) fun v => K v w) (fun t23 w =>
 G (isB t21 false) (fun K => N (xv (Instr.index 9 t22 t23)) w K) (fun t24 w =>
 G (isB t21 false) (fun K => M (e 2) fun v => K v w) (fun t25 w =>
 G (isB t21 false) (fun K => N (xv (xbin .eql 5 (.tmp 24) (.tmp 25) t24 t25)) w K) (fun t26 w =>
 N (xpick t21 (.bool true) t26) w fun t27 w =>
 M t27 fun t28 =>
 G (isB t28 false) (fun K => M (e 0) fun v => K v w) (fun t29 w =>
 G (isB t28 false) (fun K => M (e 9) fun v => K v w) (fun t30 w =>
 G (isB t28 false) (fun K => N (xv (Instr.index 9 t29 t30)) w K) (fun t31 w =>
 G (isB t28 false) (fun K => M (e 3) fun v => K v w) (fun t32 w =>
 G (isB t28 false) (fun K => N (xv (xbin .eql 5 (.tmp 31) (.tmp 32) t31 t32)) w K) (fun t33 w =>
 N (xpick t28 (.bool true) t33) w fun t34 w =>
 k (Env.p e 34 t34) w) w) w) w) w) w) w) w) w) w) w)
def c47_9_s:=block47 c47_9 c47_10 1
def c47_7_s:=seq47 c47_7 c47_8 c47_9
def c47_14_s:=cond47 c47_14 (.exit 0) 13 .skip
def c47_13_s:=reg47 c47_13 c47_14 (fun N M G k e w =>
 M (e 9) fun t10 =>
 M (e 0) fun t11 =>
 N (builtin Builtin.len #[9] 3 ([false]).toArray ([t11]).toArray) w fun t12 w =>
 N (xv (xbin .lss 3 (.tmp 10) (.tmp 12) t10 t12)) w fun t13 w =>
 k (Env.p e 13 t13) w)
def c47_6_s:=seq47 c47_6 c47_7 c47_13
def c47_5_s:=loop47 c47_5 c47_6
def c47_4_s:=block47 c47_4 c47_5 0
def c47_3_s:=reg47 c47_3 c47_4 (fun N M G k e w =>
 M (.int .i64 0) fun t9 =>
 k (Env.p e 9 t9) w)
def c47_1_s:=seq47 c47_1 c47_2 c47_3
def c47_s:=reg47 c47 c47_1 (fun N M G k e w =>
 M (.bool false) fun t8 =>
 k (Env.p e 8 t8) w)
theorem call47 {a0 a1 a2 a3 : Value} {w : World} {R : Value → World → Prop} (h : W3 Tryd.prog 35 V47 c47 (retQ Tryd.prog [.tmp 8] R) (argE [a0, a1, a2, a3]) w) : CallsN Tryd.prog 47 [a0, a1, a2, a3] w R :=
 callsN_of_W3 (c := c47) (rs := [.tmp 8]) V47 Tryd.ntmps47 (by rw [Tryd.results47]) mixed Tryd.func47 (by kernel_rfl) (by kernel_rfl) (by kernel_rfl) (by kernel_rfl) (by simp) h
def w3t_47:=w3t Tryd.prog 35 V47
def hk47 := aI @c47_2_s <| aI @c47_8_s <| aI @c47_12_s <| aI @c47_11_s <| aI @c47_10_s <| aI @c47_9_s <| aI @c47_7_s <| aI @c47_14_s <| aI @c47_13_s <| aI @c47_6_s <| aI @c47_5_s <| aI @c47_4_s <| aI @c47_3_s <| aI @c47_1_s <| aI @c47_s <| @w3t_47
-- K47: ↓hk47
end
end Go.Proofs.YtbbjnplellanaaaDoor
