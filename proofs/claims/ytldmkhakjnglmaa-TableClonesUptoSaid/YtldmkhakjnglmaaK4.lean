/- The equations of the code of some functions, written by the printer gen3.py: each is checked by the kernel. -/
import Derived.Test.YtldmkhakjnglmaaQ0
import Derived.Test.YtldmkhakjnglmaaCI
set_option linter.unusedVariables false
set_option linter.unusedSimpArgs false
set_option maxRecDepth 100000
namespace Go.Proofs.Ytldmkhakjnglmaa
open Go.VW
noncomputable section
set_option linter.defProp false
variable {N : NT} {T : T3T} {M : MT} {G : GT} {H : HT} {k : KT} {Q : Exit → Env → World → Prop} {e el eg : Env} {w u0 u1 u2 u3 u4 u5 u6 u7 u8 u9 : World}
/-! ### vouch/vouchlaw10.TableClones -/
def V5 : Nat → Bool := fun i => [0, 1, 4, 5, 6, 7, 8, 9, 10, 11, 12, 13, 14, 15, 17, 24, 34, 40, 54, 68, 86, 90, 100].elem i
noncomputable def c5:Code:=(Try.f5.body.getD .skip)
noncomputable def o5_0:Array Oper:=rO (cL c5)
noncomputable def c5_1:Code:=(cR c5)
noncomputable def c5_2:Code:=(cR c5_1)
noncomputable def o5_3:Array Oper:=rO (cL c5_2)
noncomputable def c5_3:Code:=(cR c5_2)
noncomputable def c5_4:Code:=(cR c5_3)
noncomputable def o5_9:Array Oper:=rO (cL c5_4)
noncomputable def c5_5:Code:=(cR c5_4)
noncomputable def c5_6:Code:=(cR c5_5)
noncomputable def c5_7:Code:=(cR c5_6)
noncomputable def o5_23:Array Oper:=rO (cL c5_7)
noncomputable def b5_23:List Row:=[(0, 0, 32, 76, true), (1, 1, 37778931862957161709568, 77, false), (0, 0, 0, 78, false), (0, 0, 64, 79, true), (8, 8, 302231454903657293676544, 80, true), (16, 24, 604462909807314587353088, 81, true), (32, 56, 1208925819614629174706176, 82, true), (70, 127, 2568967366681086996250624, 83, false), (128, 255, 4835703278458516698824704, 84, true), (256, 511, 9671406556917033397649408, 85, false), (131, 255, 75557863725914323419136, 14, true), (2047, 2047, 19342813113834066795298816, 15, true)]
noncomputable def c5_8:Code:=(cR c5_7)
noncomputable def c5_9:Code:=(cR c5_8)
noncomputable def c5_10:Code:=(cR c5_9)
noncomputable def o5_31:Array Oper:=rO (cL c5_10)
noncomputable def b5_31:List Row:=[(0, 0, 32, 102, true), (1, 1, 2535301200456458802993406410752, 103, false), (0, 0, 64, 104, true), (4, 4, 10141204801825835211973625643008, 105, true), (8, 12, 20282409603651670423947251286016, 106, true), (16, 28, 40564819207303340847894502572032, 107, true), (34, 63, 86200240815519599301775817965568, 108, false), (64, 127, 162259276829213363391578010288128, 109, true), (128, 255, 324518553658426726783156020584448, 110, true), (384, 511, 973555660975280180349468061728768, 111, false), (128, 255, 324518553658426726783156020592640, 112, true), (1152, 1279, 2920666982925840541048404185186304, 113, true), (2176, 3327, 5516815412193254355313652349796352, 114, true), (4224, 7423, 10709112270728081983844148679016448, 115, true), (8832, 16383, 22391780202431444148037765419761664, 116, false), (16512, 32767, 41862893421937047755027126654337024, 117, true), (49152, 65535, 83076749736557242056487941267521536, 118, true), (65536, 131071, 166153499473114484112975882535043104, 119, true), (196608, 262143, 498460498419343452338927647605129216, 120, false), (65536, 131071, 166153499473114484112975882535043136, 121, true), (851968, 1048575, 1495381495258030357016782942815387648, 122, false), (1376256, 2097151, 3489223488935404166372493533235904512, 123, true), (2162688, 4194303, 5483065482612777975728204123656421376, 124, true), (5242880, 8388607, 10633823966279326983230456482242756608, 125, true), (8388608, 16777215, 21267647932558653966460912964485521408, 126, true), (25165824, 33554431, 63802943797675961899382738893456539648, 127, false), (8388608, 16777215, 21267647932558653966460912964485529600, 128, true), (109051904, 134217727, 191408831393027885698148216680369618944, 129, false), (176160768, 268435455, 446620606583731733295679172254195777536, 130, true), (276824064, 536870911, 701832381774435580893210127828021936128, 131, true), (671088640, 1073741823, 1361129467683753853853498429727072845824, 132, true), (1073741824, 2147483647, 2722258935367507707706996859454145699840, 133, true), (3221225472, 4294967295, 8166776806102523123120990578362437074944, 134, false), (1073741824, 2147483647, 2722258935367507707706996859454145708032, 135, true), (9663676416, 10737418239, 24500330418307569369362971735087311224832, 136, true), (18253611008, 27917287423, 46278401901247631031018946610720476758016, 137, true), (35433480192, 62277025791, 89834544867127754354330896361986807824384, 138, true), (69793218560, 130996502527, 176946830798888001000954795864519469957120, 139, true), (142807662592, 274877906943, 362060438403878525125030582307401376989184, 140, true), (275951648768, 549755813887, 699620546389449480880698192879715442753536, 141, true), (1099511627775, 1099511627775, 1393796574908163946345982392040522594123776, 5, true)]
noncomputable def c5_11:Code:=(cL c5_9)
noncomputable def o5_26:Array Oper:=rO (cL c5_11)
noncomputable def c5_12:Code:=(cR c5_11)
noncomputable def c5_13:Code:=(cL c5_12)
noncomputable def c5_14:Code:=(cL c5_13)
noncomputable def c5_15:Code:=(cR c5_14)
noncomputable def c5_16:Code:=(cR c5_15)
noncomputable def o5_28:Array Oper:=rO c5_16
noncomputable def c5_17:Code:=(cL c5_15)
noncomputable def c5_18:Code:=(cL c5_17)
noncomputable def o5_29:Array Oper:=rO (cL c5_18)
noncomputable def c5_19:Code:=(cR c5_18)
noncomputable def c5_20:Code:=(cL c5_19)
noncomputable def o5_30:Array Oper:=rO (cL c5_20)
noncomputable def c5_21:Code:=(cL c5_14)
noncomputable def o5_27:Array Oper:=rO (cL c5_21)
noncomputable def c5_22:Code:=(cR c5_21)
noncomputable def c5_23:Code:=(cL c5_8)
noncomputable def o5_24:Array Oper:=rO (cL c5_23)
noncomputable def c5_24:Code:=(cR c5_23)
noncomputable def c5_25:Code:=(cL c5_24)
noncomputable def o5_25:Array Oper:=rO (cL c5_25)
noncomputable def c5_26:Code:=(cL c5_6)
noncomputable def o5_19:Array Oper:=rO (cL c5_26)
noncomputable def c5_27:Code:=(cR c5_26)
noncomputable def c5_28:Code:=(cL c5_27)
noncomputable def c5_29:Code:=(cL c5_28)
noncomputable def c5_30:Code:=(cR c5_29)
noncomputable def c5_31:Code:=(cR c5_30)
noncomputable def o5_21:Array Oper:=rO c5_31
noncomputable def c5_32:Code:=(cL c5_30)
noncomputable def c5_33:Code:=(cL c5_32)
noncomputable def o5_22:Array Oper:=rO c5_33
noncomputable def c5_34:Code:=(cL c5_29)
noncomputable def o5_20:Array Oper:=rO (cL c5_34)
noncomputable def c5_35:Code:=(cR c5_34)
noncomputable def c5_36:Code:=(cL c5_5)
noncomputable def o5_10:Array Oper:=rO (cL c5_36)
noncomputable def c5_37:Code:=(cR c5_36)
noncomputable def c5_38:Code:=(cL c5_37)
noncomputable def c5_39:Code:=(cL c5_38)
noncomputable def c5_40:Code:=(cR c5_39)
noncomputable def c5_41:Code:=(cR c5_40)
noncomputable def o5_12:Array Oper:=rO c5_41
noncomputable def c5_42:Code:=(cL c5_40)
noncomputable def c5_43:Code:=(cL c5_42)
noncomputable def o5_13:Array Oper:=rO (cL c5_43)
noncomputable def c5_44:Code:=(cR c5_43)
noncomputable def c5_45:Code:=(cR c5_44)
noncomputable def o5_18:Array Oper:=rO c5_45
noncomputable def c5_46:Code:=(cL c5_44)
noncomputable def o5_14:Array Oper:=rO (cL c5_46)
noncomputable def c5_47:Code:=(cR c5_46)
noncomputable def c5_48:Code:=(cL c5_47)
noncomputable def c5_49:Code:=(cL c5_48)
noncomputable def c5_50:Code:=(cR c5_49)
noncomputable def c5_51:Code:=(cR c5_50)
noncomputable def o5_16:Array Oper:=rO c5_51
noncomputable def c5_52:Code:=(cL c5_50)
noncomputable def c5_53:Code:=(cL c5_52)
noncomputable def o5_17:Array Oper:=rO c5_53
noncomputable def c5_54:Code:=(cL c5_49)
noncomputable def o5_15:Array Oper:=rO (cL c5_54)
noncomputable def c5_55:Code:=(cR c5_54)
noncomputable def c5_56:Code:=(cL c5_39)
noncomputable def o5_11:Array Oper:=rO (cL c5_56)
noncomputable def c5_57:Code:=(cR c5_56)
noncomputable def c5_58:Code:=(cL c5_3)
noncomputable def o5_4:Array Oper:=rO (cL c5_58)
noncomputable def c5_59:Code:=(cR c5_58)
noncomputable def c5_60:Code:=(cL c5_59)
noncomputable def c5_61:Code:=(cL c5_60)
noncomputable def c5_62:Code:=(cR c5_61)
noncomputable def c5_63:Code:=(cR c5_62)
noncomputable def o5_6:Array Oper:=rO c5_63
noncomputable def c5_64:Code:=(cL c5_62)
noncomputable def c5_65:Code:=(cL c5_64)
noncomputable def o5_7:Array Oper:=rO (cL c5_65)
noncomputable def c5_66:Code:=(cR c5_65)
noncomputable def c5_67:Code:=(cL c5_66)
noncomputable def o5_8:Array Oper:=rO (cL c5_67)
noncomputable def c5_68:Code:=(cL c5_61)
noncomputable def o5_5:Array Oper:=rO (cL c5_68)
noncomputable def c5_69:Code:=(cR c5_68)
noncomputable def c5_70:Code:=(cL c5_1)
noncomputable def o5_1:Array Oper:=rO (cL c5_70)
noncomputable def c5_71:Code:=(cR c5_70)
noncomputable def c5_72:Code:=(cL c5_71)
noncomputable def o5_2:Array Oper:=rO (cL c5_72)
noncomputable def c5_10_s:=@s_drw Try.prog 141 V5 c5_10 .ret 31 o5_31 b5_31 41 (fun N T M G H k e w =>
    M (e 5) fun t101 =>
    M (e 6) fun t103 =>
    T (FrX none w) (xnil t103) fun t104 =>
    T (FrX none w) (xv (Instr.fieldAt 29 t104 0)) fun t105 =>
    T (FrX (some []) w) (xv (Instr.loadAt 27 t105)) fun t106 =>
    N (xcall (Value.func (Fn.func 14) #[] #[]) [t101]) w fun t102 w1 =>
    FrX (some []) w w1 ∧ (N (xcall (Value.func (Fn.func 13) #[] #[]) [t102, t106]) w1 fun t107 w6 =>
    M t107 fun t108 =>
    H (isB t108 true) (fun K => M (e 13) K) (fun t109 =>
    H (isB t108 true) (fun K => M (e 14) K) (fun t111 =>
    H (isB t108 true) (fun K => T (FrX none w6) (xnil t111) K) (fun t112 =>
    H (isB t108 true) (fun K => T (FrX none w6) (xv (Instr.fieldAt 29 t112 0)) K) (fun t113 =>
    H (isB t108 true) (fun K => T (FrX (some []) w6) (xv (Instr.loadAt 27 t113)) K) (fun t114 =>
    G (isB t108 true) (fun K => N (xcall (Value.func (Fn.func 14) #[] #[]) [t109]) w6 K) (fun t110 w9 =>
    FrX (some []) w6 w9 ∧ (G (isB t108 true) (fun K => N (xcall (Value.func (Fn.func 13) #[] #[]) [t110, t114]) w9 K) (fun t115 w14 =>
    T (FrX none w14) (xpick t108 t115 (Value.bool false)) fun t116 =>
    M t116 fun t117 =>
    H (isB t117 true) (fun K => M (e 5) K) (fun t118 =>
    H (isB t117 true) (fun K => M (e 6) K) (fun t120 =>
    G (isB t117 true) (fun K => N (xcall (Value.func (Fn.func 11) #[] #[]) [t118]) w14 K) (fun t119 w18 =>
    G (isB t117 true) (fun K => N (xcall (Value.func (Fn.func 12) #[] #[]) [t120]) w18 K) (fun t121 w20 =>
    H (isB t117 true) (fun K => T (FrX none w20) (xv (xbin BinOp.eql 3 (Operand.tmp 119) (Operand.tmp 121) t119 t121)) K) (fun t122 =>
    T (FrX none w20) (xpick t117 t122 (Value.bool false)) fun t123 =>
    M t123 fun t124 =>
    H (isB t124 true) (fun K => M (e 13) K) (fun t125 =>
    H (isB t124 true) (fun K => M (e 14) K) (fun t127 =>
    G (isB t124 true) (fun K => N (xcall (Value.func (Fn.func 11) #[] #[]) [t125]) w20 K) (fun t126 w25 =>
    G (isB t124 true) (fun K => N (xcall (Value.func (Fn.func 12) #[] #[]) [t127]) w25 K) (fun t128 w27 =>
    H (isB t124 true) (fun K => T (FrX none w27) (xv (xbin BinOp.eql 3 (Operand.tmp 126) (Operand.tmp 128) t126 t128)) K) (fun t129 =>
    T (FrX none w27) (xpick t124 t129 (Value.bool false)) fun t130 =>
    M t130 fun t131 =>
    H (isB t131 true) (fun K => M (e 13) K) (fun t132 =>
    H (isB t131 true) (fun K => M (e 14) K) (fun t134 =>
    H (isB t131 true) (fun K => T (FrX none w27) (xnil t134) K) (fun t135 =>
    H (isB t131 true) (fun K => T (FrX none w27) (xv (Instr.fieldAt 29 t135 0)) K) (fun t136 =>
    H (isB t131 true) (fun K => T (FrX (some []) w27) (xv (Instr.loadAt 27 t136)) K) (fun t137 =>
    H (isB t131 true) (fun K => T (FrX (some []) w27) (builtin Builtin.len #[27] 3 ([false]).toArray ([t137]).toArray) K) (fun t138 =>
    G (isB t131 true) (fun K => N (xcall (Value.func (Fn.func 10) #[] #[]) [t132]) w27 K) (fun t133 w32 =>
    FrX (some []) w27 w32 ∧ (FrX (some []) w27 w32 ∧ (H (isB t131 true) (fun K => T (FrX none w32) (xv (xbin BinOp.eql 3 (Operand.tmp 133) (Operand.tmp 138) t133 t138)) K) (fun t139 =>
    T (FrX none w32) (xpick t131 t139 (Value.bool false)) fun t140 =>
    M t140 fun t4 =>
    k (Env.p e 4 t4) w32)))) w27)))))))) w25) w20)))) w18) w14))) w9)) w6))))))) (by kernel_rfl) (by kernel_rfl) (by kernel_rfl) (by intros; kernel_rfl)
noncomputable def c5_16_s:=@s_rend Try.prog 141 V5 c5_16 28 o5_28 (fun N M G k e w =>
    M (e 15) fun t91 =>
    N (xv (xbin BinOp.add 3 (Operand.tmp 91) (Operand.const (Value.int IntKind.i64 1)) t91 (Value.int IntKind.i64 1))) w fun t92 w =>
    M t92 fun t15 =>
    k (Env.p e 15 t15) w) (by kernel_rfl) (by intros; kernel_rfl)
noncomputable def c5_20_s:=@s_reg Try.prog 141 V5 c5_20 .ret 30 o5_30 (fun N M G k e w =>
    M (Value.bool false) fun t4 =>
    k (Env.p e 4 t4) w) (by kernel_rfl) (by intros; kernel_rfl)
noncomputable def c5_19_s:=@s_cond Try.prog 141 V5 c5_19 .skip 100 c5_20 (by kernel_rfl) (by kernel_rfl)
noncomputable def c5_18_s:=@s_reg Try.prog 141 V5 c5_18 c5_19 29 o5_29 (fun N M G k e w =>
    M (e 13) fun t93 =>
    M (e 14) fun t94 =>
    M (e 1) fun t95 =>
    M (e 15) fun t96 =>
    N (xv (Instr.indexAt 22 t95 t96)) w fun t97 w =>
    N (xv (Instr.loadAt 40 t97)) w fun t98 w =>
    N (xcall (Value.func (Fn.func 9) #[] #[]) [t93, t94, t98]) w fun t99 w =>
    N (xv (Op.unary UnOp.not t99)) w fun t100 w =>
    k (Env.p e 100 t100) w) (by kernel_rfl) (by intros; kernel_rfl)
noncomputable def c5_17_s:=@s_block Try.prog 141 V5 c5_17 c5_18 9 (by kernel_rfl)
noncomputable def c5_15_s:=@s_seq Try.prog 141 V5 c5_15 c5_16 c5_17 (by kernel_rfl)
noncomputable def c5_22_s:=@s_cond Try.prog 141 V5 c5_22 (.exit 8) 90 .skip (by kernel_rfl) (by kernel_rfl)
noncomputable def c5_21_s:=@s_reg Try.prog 141 V5 c5_21 c5_22 27 o5_27 (fun N M G k e w =>
    M (e 15) fun t87 =>
    M (e 1) fun t88 =>
    N (builtin Builtin.len #[22] 3 ([false]).toArray ([t88]).toArray) w fun t89 w =>
    N (xv (xbin BinOp.lss 3 (Operand.tmp 87) (Operand.tmp 89) t87 t89)) w fun t90 w =>
    k (Env.p e 90 t90) w) (by kernel_rfl) (by intros; kernel_rfl)
noncomputable def c5_14_s:=@s_seq Try.prog 141 V5 c5_14 c5_15 c5_21 (by kernel_rfl)
noncomputable def c5_13_s:=@s_loop Try.prog 141 V5 c5_13 c5_14 (by kernel_rfl)
noncomputable def c5_12_s:=@s_block Try.prog 141 V5 c5_12 c5_13 8 (by kernel_rfl)
noncomputable def c5_11_s:=@s_reg Try.prog 141 V5 c5_11 c5_12 26 o5_26 (fun N M G k e w =>
    M (Value.int IntKind.i64 0) fun t15 =>
    k (Env.p e 15 t15) w) (by kernel_rfl) (by intros; kernel_rfl)
noncomputable def c5_9_s:=@s_seq Try.prog 141 V5 c5_9 c5_10 c5_11 (by kernel_rfl)
noncomputable def c5_25_s:=@s_reg Try.prog 141 V5 c5_25 .ret 25 o5_25 (fun N M G k e w =>
    M (Value.bool false) fun t4 =>
    k (Env.p e 4 t4) w) (by kernel_rfl) (by intros; kernel_rfl)
noncomputable def c5_24_s:=@s_cond Try.prog 141 V5 c5_24 .skip 86 c5_25 (by kernel_rfl) (by kernel_rfl)
noncomputable def c5_23_s:=@s_reg Try.prog 141 V5 c5_23 c5_24 24 o5_24 (fun N M G k e w =>
    M (e 13) fun t85 =>
    N (xv (xbin BinOp.eql 24 (Operand.tmp 85) (Operand.const (Value.pointer none)) t85 (Value.pointer none))) w fun t86 w =>
    k (Env.p e 86 t86) w) (by kernel_rfl) (by intros; kernel_rfl)
noncomputable def c5_8_s:=@s_seq Try.prog 141 V5 c5_8 c5_9 c5_23 (by kernel_rfl)
noncomputable def c5_7_s:=@s_drw Try.prog 141 V5 c5_7 c5_8 23 o5_23 b5_23 12 (fun N T M G H k e w =>
    M (e 5) fun t75 =>
    M (e 6) fun t78 =>
    T (FrX none w) (xnil t78) fun t79 =>
    T (FrX none w) (xv (Instr.fieldAt 29 t79 0)) fun t80 =>
    T (FrX (some []) w) (xv (Instr.loadAt 27 t80)) fun t81 =>
    (N (xcall (Value.func (Fn.func 20) #[] #[]) [t75]) w fun t76 w1 =>
    FrX (some []) w w1 ∧ (N (xv (Instr.buildSlice 27 0 ([]).toArray)) w1 fun t77 w2 =>
    FrX (some []) w w2 ∧ (N (builtin Builtin.append #[27, 27] 27 ([false, false]).toArray ([t77, t81]).toArray) w2 fun t82 w7 =>
    T (FrX none w7) (xv (Instr.build 29 ([(0, t82)]).toArray)) fun t83 =>
    M t76 fun t13 =>
    N (xv (Instr.box 29 t83)) w7 fun t84 w9 =>
    M t84 fun t14 =>
    k (Env.p (Env.p e 13 t13) 14 t14) w9))) ∧ (N (xv (Instr.buildSlice 27 0 ([]).toArray)) w fun t77 w2 =>
    FrX (some []) w w2 ∧ (N (xcall (Value.func (Fn.func 20) #[] #[]) [t75]) w2 fun t76 w1 =>
    FrX (some []) w w1 ∧ (N (builtin Builtin.append #[27, 27] 27 ([false, false]).toArray ([t77, t81]).toArray) w1 fun t82 w7 =>
    T (FrX none w7) (xv (Instr.build 29 ([(0, t82)]).toArray)) fun t83 =>
    M t76 fun t13 =>
    N (xv (Instr.box 29 t83)) w7 fun t84 w9 =>
    M t84 fun t14 =>
    k (Env.p (Env.p e 13 t13) 14 t14) w9)))) (by kernel_rfl) (by kernel_rfl) (by kernel_rfl) (by intros; kernel_rfl)
noncomputable def c5_31_s:=@s_rend Try.prog 141 V5 c5_31 21 o5_21 (fun N M G k e w =>
    M (e 12) fun t69 =>
    N (xv (xbin BinOp.add 3 (Operand.tmp 69) (Operand.const (Value.int IntKind.i64 1)) t69 (Value.int IntKind.i64 1))) w fun t70 w =>
    M t70 fun t12 =>
    k (Env.p e 12 t12) w) (by kernel_rfl) (by intros; kernel_rfl)
noncomputable def c5_33_s:=@s_rend Try.prog 141 V5 c5_33 22 o5_22 (fun N M G k e w =>
    M (e 8) fun t71 =>
    M (e 12) fun t72 =>
    N (xcall (Value.func (Fn.func 19) #[] #[]) [(Value.string ⟨#[109, 97, 114, 107]⟩), (Value.int IntKind.i64 (-3)), (Value.int IntKind.i64 (-3))]) w fun t73 w =>
    N (xv (Instr.indexAt 27 t71 t72)) w fun t74 w =>
    N (xu (Instr.storeAt 36 t74 t73)) w fun _ w =>
    k e w) (by kernel_rfl) (by intros; kernel_rfl)
noncomputable def c5_32_s:=@s_block Try.prog 141 V5 c5_32 c5_33 7 (by kernel_rfl)
noncomputable def c5_30_s:=@s_seq Try.prog 141 V5 c5_30 c5_31 c5_32 (by kernel_rfl)
noncomputable def c5_35_s:=@s_cond Try.prog 141 V5 c5_35 (.exit 6) 68 .skip (by kernel_rfl) (by kernel_rfl)
noncomputable def c5_34_s:=@s_reg Try.prog 141 V5 c5_34 c5_35 20 o5_20 (fun N M G k e w =>
    M (e 12) fun t65 =>
    M (e 8) fun t66 =>
    N (builtin Builtin.len #[27] 3 ([false]).toArray ([t66]).toArray) w fun t67 w =>
    N (xv (xbin BinOp.lss 3 (Operand.tmp 65) (Operand.tmp 67) t65 t67)) w fun t68 w =>
    k (Env.p e 68 t68) w) (by kernel_rfl) (by intros; kernel_rfl)
noncomputable def c5_29_s:=@s_seq Try.prog 141 V5 c5_29 c5_30 c5_34 (by kernel_rfl)
noncomputable def c5_28_s:=@s_loop Try.prog 141 V5 c5_28 c5_29 (by kernel_rfl)
noncomputable def c5_27_s:=@s_block Try.prog 141 V5 c5_27 c5_28 6 (by kernel_rfl)
noncomputable def c5_26_s:=@s_reg Try.prog 141 V5 c5_26 c5_27 19 o5_19 (fun N M G k e w =>
    M (Value.int IntKind.i64 0) fun t12 =>
    k (Env.p e 12 t12) w) (by kernel_rfl) (by intros; kernel_rfl)
noncomputable def c5_6_s:=@s_seq Try.prog 141 V5 c5_6 c5_7 c5_26 (by kernel_rfl)
noncomputable def c5_41_s:=@s_rend Try.prog 141 V5 c5_41 12 o5_12 (fun N M G k e w =>
    M (e 9) fun t41 =>
    N (xv (xbin BinOp.add 3 (Operand.tmp 41) (Operand.const (Value.int IntKind.i64 1)) t41 (Value.int IntKind.i64 1))) w fun t42 w =>
    M t42 fun t9 =>
    k (Env.p e 9 t9) w) (by kernel_rfl) (by intros; kernel_rfl)
noncomputable def c5_45_s:=@s_rend Try.prog 141 V5 c5_45 18 o5_18 (fun N M G k e w =>
    M (e 10) fun t61 =>
    N (xcall (Value.func (Fn.func 19) #[] #[]) [(Value.string ⟨#[109, 111, 114, 101]⟩), (Value.int IntKind.i64 (-2)), (Value.int IntKind.i64 (-2))]) w fun t62 w =>
    N (xv (Instr.buildSlice 27 1 ([(0, t62)]).toArray)) w fun t63 w =>
    N (builtin Builtin.append #[27, 27] 27 ([false, false]).toArray ([t61, t63]).toArray) w fun t64 w =>
    M t64 fun t10 =>
    k (Env.p e 10 t10) w) (by kernel_rfl) (by intros; kernel_rfl)
noncomputable def c5_51_s:=@s_rend Try.prog 141 V5 c5_51 16 o5_16 (fun N M G k e w =>
    M (e 11) fun t55 =>
    N (xv (xbin BinOp.add 3 (Operand.tmp 55) (Operand.const (Value.int IntKind.i64 1)) t55 (Value.int IntKind.i64 1))) w fun t56 w =>
    M t56 fun t11 =>
    k (Env.p e 11 t11) w) (by kernel_rfl) (by intros; kernel_rfl)
noncomputable def c5_53_s:=@s_rend Try.prog 141 V5 c5_53 17 o5_17 (fun N M G k e w =>
    M (e 10) fun t57 =>
    M (e 11) fun t58 =>
    N (xcall (Value.func (Fn.func 19) #[] #[]) [(Value.string ⟨#[111, 118, 101, 114]⟩), (Value.int IntKind.i64 (-1)), (Value.int IntKind.i64 (-1))]) w fun t59 w =>
    N (xv (Instr.indexAt 27 t57 t58)) w fun t60 w =>
    N (xu (Instr.storeAt 36 t60 t59)) w fun _ w =>
    k e w) (by kernel_rfl) (by intros; kernel_rfl)
noncomputable def c5_52_s:=@s_block Try.prog 141 V5 c5_52 c5_53 5 (by kernel_rfl)
noncomputable def c5_50_s:=@s_seq Try.prog 141 V5 c5_50 c5_51 c5_52 (by kernel_rfl)
noncomputable def c5_55_s:=@s_cond Try.prog 141 V5 c5_55 (.exit 4) 54 .skip (by kernel_rfl) (by kernel_rfl)
noncomputable def c5_54_s:=@s_reg Try.prog 141 V5 c5_54 c5_55 15 o5_15 (fun N M G k e w =>
    M (e 11) fun t51 =>
    M (e 10) fun t52 =>
    N (builtin Builtin.len #[27] 3 ([false]).toArray ([t52]).toArray) w fun t53 w =>
    N (xv (xbin BinOp.lss 3 (Operand.tmp 51) (Operand.tmp 53) t51 t53)) w fun t54 w =>
    k (Env.p e 54 t54) w) (by kernel_rfl) (by intros; kernel_rfl)
noncomputable def c5_49_s:=@s_seq Try.prog 141 V5 c5_49 c5_50 c5_54 (by kernel_rfl)
noncomputable def c5_48_s:=@s_loop Try.prog 141 V5 c5_48 c5_49 (by kernel_rfl)
noncomputable def c5_47_s:=@s_block Try.prog 141 V5 c5_47 c5_48 4 (by kernel_rfl)
noncomputable def c5_46_s:=@s_reg Try.prog 141 V5 c5_46 c5_47 14 o5_14 (fun N M G k e w =>
    M (Value.int IntKind.i64 0) fun t11 =>
    k (Env.p e 11 t11) w) (by kernel_rfl) (by intros; kernel_rfl)
noncomputable def c5_44_s:=@s_seq Try.prog 141 V5 c5_44 c5_45 c5_46 (by kernel_rfl)
noncomputable def c5_43_s:=@s_reg Try.prog 141 V5 c5_43 c5_44 13 o5_13 (fun N M G k e w =>
    M (e 5) fun t43 =>
    M (e 8) fun t44 =>
    M (e 9) fun t45 =>
    N (xv (Instr.indexAt 27 t44 t45)) w fun t46 w =>
    N (xv (Instr.fieldAt 36 t46 0)) w fun t47 w =>
    N (xv (Instr.fieldAt 34 t47 0)) w fun t48 w =>
    N (xv (Instr.loadAt 9 t48)) w fun t49 w =>
    N (xcall (Value.func (Fn.func 18) #[] #[]) [t43, t49]) w fun t50 w =>
    M t50 fun t10 =>
    k (Env.p e 10 t10) w) (by kernel_rfl) (by intros; kernel_rfl)
noncomputable def c5_42_s:=@s_block Try.prog 141 V5 c5_42 c5_43 3 (by kernel_rfl)
noncomputable def c5_40_s:=@s_seq Try.prog 141 V5 c5_40 c5_41 c5_42 (by kernel_rfl)
noncomputable def c5_57_s:=@s_cond Try.prog 141 V5 c5_57 (.exit 2) 40 .skip (by kernel_rfl) (by kernel_rfl)
noncomputable def c5_56_s:=@s_reg Try.prog 141 V5 c5_56 c5_57 11 o5_11 (fun N M G k e w =>
    M (e 9) fun t37 =>
    M (e 8) fun t38 =>
    N (builtin Builtin.len #[27] 3 ([false]).toArray ([t38]).toArray) w fun t39 w =>
    N (xv (xbin BinOp.lss 3 (Operand.tmp 37) (Operand.tmp 39) t37 t39)) w fun t40 w =>
    k (Env.p e 40 t40) w) (by kernel_rfl) (by intros; kernel_rfl)
noncomputable def c5_39_s:=@s_seq Try.prog 141 V5 c5_39 c5_40 c5_56 (by kernel_rfl)
noncomputable def c5_38_s:=@s_loop Try.prog 141 V5 c5_38 c5_39 (by kernel_rfl)
noncomputable def c5_37_s:=@s_block Try.prog 141 V5 c5_37 c5_38 2 (by kernel_rfl)
noncomputable def c5_36_s:=@s_reg Try.prog 141 V5 c5_36 c5_37 10 o5_10 (fun N M G k e w =>
    M (Value.int IntKind.i64 0) fun t9 =>
    k (Env.p e 9 t9) w) (by kernel_rfl) (by intros; kernel_rfl)
noncomputable def c5_5_s:=@s_seq Try.prog 141 V5 c5_5 c5_6 c5_36 (by kernel_rfl)
noncomputable def c5_4_s:=@s_reg Try.prog 141 V5 c5_4 c5_5 9 o5_9 (fun N M G k e w =>
    M (e 5) fun t35 =>
    N (xcall (Value.func (Fn.func 14) #[] #[]) [t35]) w fun t36 w =>
    M t36 fun t8 =>
    k (Env.p e 8 t8) w) (by kernel_rfl) (by intros; kernel_rfl)
noncomputable def c5_63_s:=@s_rend Try.prog 141 V5 c5_63 6 o5_6 (fun N M G k e w =>
    M (e 7) fun t25 =>
    N (xv (xbin BinOp.add 3 (Operand.tmp 25) (Operand.const (Value.int IntKind.i64 1)) t25 (Value.int IntKind.i64 1))) w fun t26 w =>
    M t26 fun t7 =>
    k (Env.p e 7 t7) w) (by kernel_rfl) (by intros; kernel_rfl)
noncomputable def c5_67_s:=@s_reg Try.prog 141 V5 c5_67 .ret 8 o5_8 (fun N M G k e w =>
    M (Value.bool false) fun t4 =>
    k (Env.p e 4 t4) w) (by kernel_rfl) (by intros; kernel_rfl)
noncomputable def c5_66_s:=@s_cond Try.prog 141 V5 c5_66 .skip 34 c5_67 (by kernel_rfl) (by kernel_rfl)
noncomputable def c5_65_s:=@s_reg Try.prog 141 V5 c5_65 c5_66 7 o5_7 (fun N M G k e w =>
    M (e 5) fun t27 =>
    M (e 6) fun t28 =>
    M (e 0) fun t29 =>
    M (e 7) fun t30 =>
    N (xv (Instr.indexAt 22 t29 t30)) w fun t31 w =>
    N (xv (Instr.loadAt 40 t31)) w fun t32 w =>
    N (xcall (Value.func (Fn.func 9) #[] #[]) [t27, t28, t32]) w fun t33 w =>
    N (xv (Op.unary UnOp.not t33)) w fun t34 w =>
    k (Env.p e 34 t34) w) (by kernel_rfl) (by intros; kernel_rfl)
noncomputable def c5_64_s:=@s_block Try.prog 141 V5 c5_64 c5_65 1 (by kernel_rfl)
noncomputable def c5_62_s:=@s_seq Try.prog 141 V5 c5_62 c5_63 c5_64 (by kernel_rfl)
noncomputable def c5_69_s:=@s_cond Try.prog 141 V5 c5_69 (.exit 0) 24 .skip (by kernel_rfl) (by kernel_rfl)
noncomputable def c5_68_s:=@s_reg Try.prog 141 V5 c5_68 c5_69 5 o5_5 (fun N M G k e w =>
    M (e 7) fun t21 =>
    M (e 0) fun t22 =>
    N (builtin Builtin.len #[22] 3 ([false]).toArray ([t22]).toArray) w fun t23 w =>
    N (xv (xbin BinOp.lss 3 (Operand.tmp 21) (Operand.tmp 23) t21 t23)) w fun t24 w =>
    k (Env.p e 24 t24) w) (by kernel_rfl) (by intros; kernel_rfl)
noncomputable def c5_61_s:=@s_seq Try.prog 141 V5 c5_61 c5_62 c5_68 (by kernel_rfl)
noncomputable def c5_60_s:=@s_loop Try.prog 141 V5 c5_60 c5_61 (by kernel_rfl)
noncomputable def c5_59_s:=@s_block Try.prog 141 V5 c5_59 c5_60 0 (by kernel_rfl)
noncomputable def c5_58_s:=@s_reg Try.prog 141 V5 c5_58 c5_59 4 o5_4 (fun N M G k e w =>
    M (Value.int IntKind.i64 0) fun t7 =>
    k (Env.p e 7 t7) w) (by kernel_rfl) (by intros; kernel_rfl)
noncomputable def c5_3_s:=@s_seq Try.prog 141 V5 c5_3 c5_4 c5_58 (by kernel_rfl)
noncomputable def c5_2_s:=@s_reg Try.prog 141 V5 c5_2 c5_3 3 o5_3 (fun N M G k e w =>
    N (xcall (Value.func (Fn.func 8) #[] #[]) []) w fun t18 w =>
    N (xv (Instr.build 29 ([]).toArray)) w fun t19 w =>
    N (xv (Instr.box 29 t19)) w fun t20 w =>
    M t18 fun t5 =>
    M t20 fun t6 =>
    k (Env.p (Env.p e 5 t5) 6 t6) w) (by kernel_rfl) (by intros; kernel_rfl)
noncomputable def c5_72_s:=@s_reg Try.prog 141 V5 c5_72 .ret 2 o5_2 (fun N M G k e w =>
    M (Value.bool false) fun t4 =>
    k (Env.p e 4 t4) w) (by kernel_rfl) (by intros; kernel_rfl)
noncomputable def c5_71_s:=@s_cond Try.prog 141 V5 c5_71 .skip 17 c5_72 (by kernel_rfl) (by kernel_rfl)
noncomputable def c5_70_s:=@s_reg Try.prog 141 V5 c5_70 c5_71 1 o5_1 (fun N M G k e w =>
    N (xcall (Value.func (Fn.func 7) #[] #[]) []) w fun t16 w =>
    N (xv (Op.unary UnOp.not t16)) w fun t17 w =>
    k (Env.p e 17 t17) w) (by kernel_rfl) (by intros; kernel_rfl)
noncomputable def c5_1_s:=@s_seq Try.prog 141 V5 c5_1 c5_2 c5_70 (by kernel_rfl)
noncomputable def c5_s:=@s_reg Try.prog 141 V5 c5 c5_1 0 o5_0 (fun N M G k e w =>
    M (Value.bool false) fun t4 =>
    k (Env.p e 4 t4) w) (by kernel_rfl) (by intros; kernel_rfl)
theorem call5 {a0 a1 : Value} {w : World} {R : Value → World → Prop} (h : W3 Try.prog 141 V5 c5 (retQ Try.prog [.tmp 4] R) (argE [a0, a1]) w) : CallsN Try.prog 5 [a0, a1] w R :=
  callsN_of_W3 (c := c5) (rs := [.tmp 4]) V5 Try.ntmps5 (by rw [Try.results5]) mixed Try.func5 (by kernel_rfl) (by kernel_rfl) (by kernel_rfl) (by kernel_rfl) (by simp) h
noncomputable def w3t_5:=w3t Try.prog 141 V5
noncomputable def hk5 := And.intro @c5_10_s <| And.intro @c5_16_s <| And.intro @c5_20_s <| And.intro @c5_19_s <| And.intro @c5_18_s <| And.intro @c5_17_s <| And.intro @c5_15_s <| And.intro @c5_22_s <| And.intro @c5_21_s <| And.intro @c5_14_s <| And.intro @c5_13_s <| And.intro @c5_12_s <| And.intro @c5_11_s <| And.intro @c5_9_s <| And.intro @c5_25_s <| And.intro @c5_24_s <| And.intro @c5_23_s <| And.intro @c5_8_s <| And.intro @c5_7_s <| And.intro @c5_31_s <| And.intro @c5_33_s <| And.intro @c5_32_s <| And.intro @c5_30_s <| And.intro @c5_35_s <| And.intro @c5_34_s <| And.intro @c5_29_s <| And.intro @c5_28_s <| And.intro @c5_27_s <| And.intro @c5_26_s <| And.intro @c5_6_s <| And.intro @c5_41_s <| And.intro @c5_45_s <| And.intro @c5_51_s <| And.intro @c5_53_s <| And.intro @c5_52_s <| And.intro @c5_50_s <| And.intro @c5_55_s <| And.intro @c5_54_s <| And.intro @c5_49_s <| And.intro @c5_48_s <| And.intro @c5_47_s <| And.intro @c5_46_s <| And.intro @c5_44_s <| And.intro @c5_43_s <| And.intro @c5_42_s <| And.intro @c5_40_s <| And.intro @c5_57_s <| And.intro @c5_56_s <| And.intro @c5_39_s <| And.intro @c5_38_s <| And.intro @c5_37_s <| And.intro @c5_36_s <| And.intro @c5_5_s <| And.intro @c5_4_s <| And.intro @c5_63_s <| And.intro @c5_67_s <| And.intro @c5_66_s <| And.intro @c5_65_s <| And.intro @c5_64_s <| And.intro @c5_62_s <| And.intro @c5_69_s <| And.intro @c5_68_s <| And.intro @c5_61_s <| And.intro @c5_60_s <| And.intro @c5_59_s <| And.intro @c5_58_s <| And.intro @c5_3_s <| And.intro @c5_2_s <| And.intro @c5_72_s <| And.intro @c5_71_s <| And.intro @c5_70_s <| And.intro @c5_1_s <| And.intro @c5_s <| @w3t_5
-- K5: ↓hk5
end
end Go.Proofs.Ytldmkhakjnglmaa
