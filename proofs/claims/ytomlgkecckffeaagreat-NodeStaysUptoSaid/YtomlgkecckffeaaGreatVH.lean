/- The equations of the code of some functions, written by the printer gen3.py: each is checked by the kernel. -/
import Derived.Test.YtomlgkecckffeaaGreatCI
set_option linter.unusedVariables false
set_option linter.unusedSimpArgs false
set_option maxRecDepth 100000
namespace Go.Proofs.YtomlgkecckffeaaGreat
open Go.VW
open Go.Instr (loadAt storeAt fieldAt indexAt)
noncomputable section
set_option linter.defProp false
variable {N : NT} {T : T3T} {M : MT} {G : GT} {H : HT} {Y : YT} {k : KT} {Q : Exit → Env → World → Prop} {e el eg : Env} {w u0 u1 u2 u3 u4 u5 u6 u7 u8 u9 : World}
/-! ### vouch/node.New -/
def V15 : Nat → Bool := fun i => [0, 1, 2].elem i
def drw15:=@s_drw Tryz.prog 10 V15
def reg15:=@s_reg Tryz.prog 10 V15
noncomputable def c15:Code:=(Tryz.f15.body.getD .skip)
noncomputable def c15_1:=cR c15
noncomputable def c15_2:=cR c15_1
noncomputable def b15_2:List Row:=[(0, 0, 2, 6, true), (0, 0, 2, 7, true), (2, 2, 64, 8, false), (5, 7, 160, 9, true), (8, 15, 256, 10, false), (31, 31, 512, 3, true)]
def c15_2_s:=drw15 c15_2 .ret b15_2 6 (fun N T M G H Y k e w =>
 T (FrX (some []) w) (xv (loadAt 25 (e 1))) fun t5 =>
 T (FrX (some []) w) (xv (loadAt 25 (e 1))) fun t6 =>
 N (xcall (.func (.func 44) #[] #[]) [t6, (.bool true), (.int .i64 0)]) w fun t7 w2 =>
 Y true (xv (loadAt 25 (e 1))) t5 w w2 ∧ (T (FrX none w2) (xv (Instr.build 92 ([(0, t5), (1, (.int .i64 1)), (2, t7)]).toArray)) fun t8 =>
 N (xv (Instr.box 92 t8)) w2 fun t9 w4 =>
 M t9 fun t2 =>
 k (Env.p e 2 t2) w4))
def c15_1_s:=reg15 c15_1 c15_2 (fun N M G k e w =>
 N (xv (loadAt 25 (e 1))) w fun t3 w =>
 N (xcall (.func (.func 43) #[] #[]) [t3]) w fun t4 w =>
 N (xu (storeAt 25 (e 1) t4)) w fun _ w =>
 k e w)
def c15_s:=reg15 c15 c15_1 (fun N M G k e w =>
 N (xv (Instr.box 25 (e 0))) w fun t1 w =>
 M (.pointer none) fun t2 =>
 k (Env.p (Env.p e 1 t1) 2 t2) w)
theorem call15 {a0 : Value} {w : World} {R : Value → World → Prop} (h : W3 Tryz.prog 10 V15 c15 (retQ Tryz.prog [.tmp 2] R) (argE [a0]) w) : CallsN Tryz.prog 15 [a0] w R :=
 callsN_of_W3 (c := c15) (rs := [.tmp 2]) V15 Tryz.ntmps15 (by rw [Tryz.results15]) mixed Tryz.func15 (by kernel_rfl) (by kernel_rfl) (by kernel_rfl) (by kernel_rfl) (by simp) h
def w3t_15:=w3t Tryz.prog 10 V15
def hk15 := aI @c15_2_s <| aI @c15_1_s <| aI @c15_s <| @w3t_15
-- K15: ↓hk15
/-! ### (*vouch/node.Node) . Fill -/
def V18 : Nat → Bool := fun i => [0, 1, 2, 4, 6, 7, 26].elem i
def block18:=@s_block Tryz.prog 43 V18
def cond18:=@s_cond Tryz.prog 43 V18
def reg18:=@s_reg Tryz.prog 43 V18
def seq18:=@s_seq Tryz.prog 43 V18
noncomputable def c18:Code:=(Tryz.f18.body.getD .skip)
noncomputable def c18_1:=cR c18
noncomputable def c18_2:=cR c18_1
noncomputable def c18_3:=cL c18_1
noncomputable def c18_4:=cL c18_3
noncomputable def c18_5:=cR c18_4
noncomputable def c18_6:=cL c18_5
noncomputable def c18_7:=cR c18_5
noncomputable def c18_8:=cR c18_7
noncomputable def c18_9:=cL c18_8
def c18_2_s:=reg18 c18_2 .ret (fun N M G k e w =>
 M (e 0) fun t37 =>
 M (e 0) fun t38 =>
 N (xv (loadAt 34 (e 4))) w fun t39 w =>
 M (e 2) fun t40 =>
 N (xcall (.func (.func 50) #[] #[]) [t38, t39, t40]) w fun t41 w =>
 N (xcall (.func (.func 49) #[] #[]) [t37, t41]) w fun t42 w =>
 M t42 fun t6 =>
 k (Env.p e 6 t6) w)
def c18_6_s:=reg18 c18_6 .ret (fun N M G k e w =>
 M (.bool false) fun t6 =>
 k (Env.p e 6 t6) w)
def c18_9_s:=reg18 c18_9 .ret (fun N M G k e w =>
 M (.bool false) fun t6 =>
 k (Env.p e 6 t6) w)
def c18_8_s:=cond18 c18_8 .skip 26 c18_9
def c18_7_s:=reg18 c18_7 c18_8 (fun N M G k e w =>
 N (xv (fieldAt 34 (e 4) 3)) w fun t27 w =>
 N (xv (loadAt 2 t27)) w fun t28 w =>
 N (xv (xbin .neq 2 (.tmp 28) (.const (.int .i64 4611686018427387904)) t28 (.int .i64 4611686018427387904))) w fun t29 w =>
 M t29 fun t30 =>
 G (isB t30 true) (fun K => N (xv (fieldAt 34 (e 4) 3)) w K) (fun t31 w =>
 G (isB t30 true) (fun K => N (xv (loadAt 2 t31)) w K) (fun t32 w =>
 G (isB t30 true) (fun K => M (e 2) fun v => K v w) (fun t33 w =>
 G (isB t30 true) (fun K => N (xv (xbin .add 2 (.tmp 33) (.const (.int .i64 1)) t33 (.int .i64 1))) w K) (fun t34 w =>
 G (isB t30 true) (fun K => N (xv (xbin .gtr 2 (.tmp 32) (.tmp 34) t32 t34)) w K) (fun t35 w =>
 N (xpick t30 t35 (.bool false)) w fun t36 w =>
 M t36 fun t26 =>
 k (Env.p e 26 t26) w) w) w) w) w) w)
def c18_5_s:=cond18 c18_5 c18_7 7 c18_6
def c18_4_s:=reg18 c18_4 c18_5 (fun N M G k e w =>
 M (e 0) fun t8 =>
 N (xcall (.func (.func 47) #[] #[]) [t8]) w fun t9 w =>
 N (xv (Op.unary .not t9)) w fun t10 w =>
 M t10 fun t11 =>
 G (isB t11 false) (fun K => N (xv (loadAt 34 (e 4))) w K) (fun t12 w =>
 G (isB t11 false) (fun K => N (xcall (.func (.func 48) #[] #[]) [t12]) w K) (fun t13 w =>
 G (isB t11 false) (fun K => N (xv (Op.unary .not t13)) w K) (fun t14 w =>
 N (xpick t11 (.bool true) t14) w fun t15 w =>
 M t15 fun t16 =>
 G (isB t16 false) (fun K => M (e 2) fun v => K v w) (fun t17 w =>
 G (isB t16 false) (fun K => N (xv (fieldAt 34 (e 4) 2)) w K) (fun t18 w =>
 G (isB t16 false) (fun K => N (xv (loadAt 2 t18)) w K) (fun t19 w =>
 G (isB t16 false) (fun K => N (xv (xbin .lss 2 (.tmp 17) (.tmp 19) t17 t19)) w K) (fun t20 w =>
 N (xpick t16 (.bool true) t20) w fun t21 w =>
 M t21 fun t22 =>
 G (isB t22 false) (fun K => M (e 2) fun v => K v w) (fun t23 w =>
 G (isB t22 false) (fun K => N (xv (xbin .gtr 2 (.tmp 23) (.const (.int .i64 1099511627776)) t23 (.int .i64 1099511627776))) w K) (fun t24 w =>
 N (xpick t22 (.bool true) t24) w fun t25 w =>
 M t25 fun t7 =>
 k (Env.p e 7 t7) w) w) w) w) w) w) w) w) w) w)
def c18_3_s:=block18 c18_3 c18_4 0
def c18_1_s:=seq18 c18_1 c18_2 c18_3
def c18_s:=reg18 c18 c18_1 (fun N M G k e w =>
 N (xv (Instr.box 34 (e 1))) w fun t4 w =>
 M (.bool false) fun t6 =>
 k (Env.p (Env.p e 4 t4) 6 t6) w)
theorem call18 {a0 a1 a2 : Value} {w : World} {R : Value → World → Prop} (h : W3 Tryz.prog 43 V18 c18 (retQ Tryz.prog [.tmp 6] R) (argE [a0, a1, a2]) w) : CallsN Tryz.prog 18 [a0, a1, a2] w R :=
 callsN_of_W3 (c := c18) (rs := [.tmp 6]) V18 Tryz.ntmps18 (by rw [Tryz.results18]) mixed Tryz.func18 (by kernel_rfl) (by kernel_rfl) (by kernel_rfl) (by kernel_rfl) (by simp) h
def w3t_18:=w3t Tryz.prog 43 V18
def hk18 := aI @c18_2_s <| aI @c18_6_s <| aI @c18_9_s <| aI @c18_8_s <| aI @c18_7_s <| aI @c18_5_s <| aI @c18_4_s <| aI @c18_3_s <| aI @c18_1_s <| aI @c18_s <| @w3t_18
-- K18: ↓hk18
/-! ### (*vouch/node.Node) . Apply -/
def V20 : Nat → Bool := fun i => [0, 1, 2, 3, 4, 5, 6, 7, 9, 11, 24, 53, 54, 55, 56, 60, 61, 62, 63, 92].elem i
def block20:=@s_block Tryz.prog 120 V20
def cond20:=@s_cond Tryz.prog 120 V20
def drw20:=@s_drw Tryz.prog 120 V20
def drwE20:=@s_drwE Tryz.prog 120 V20
def loop20:=@s_loop Tryz.prog 120 V20
def reg20:=@s_reg Tryz.prog 120 V20
def rend20:=@s_rend Tryz.prog 120 V20
def seq20:=@s_seq Tryz.prog 120 V20
noncomputable def c20:Code:=(Tryz.f20.body.getD .skip)
noncomputable def c20_1:=cR c20
noncomputable def c20_2:=cR c20_1
noncomputable def c20_3:=cR c20_2
noncomputable def c20_4:=cR c20_3
noncomputable def b20_5:List Row:=[(0, 0, 4, 41, true), (1, 1, 1099511627776, 42, true), (2, 3, 2199023255552, 43, true), (4, 7, 4398046511104, 44, true), (8, 15, 8796093022208, 45, true), (16, 31, 17592186044416, 46, true), (32, 63, 35184372088832, 47, true), (0, 0, 8, 48, true), (128, 128, 140737488355328, 49, true), (0, 0, 8, 50, true), (832, 1023, 914793674309632, 51, false), (1024, 2047, 1125899906842624, 40, true), (2048, 4095, 549755813888, 52, true), (2048, 4095, 549755813888, 53, true), (8191, 8191, 2251799813685248, 7, true), (32767, 32767, 4503599627370496, 8, true)]
noncomputable def c20_5:=cR c20_4
noncomputable def c20_6:=cR c20_5
noncomputable def c20_7:=cR c20_6
noncomputable def c20_8:=cL c20_6
noncomputable def c20_9:=cR c20_8
noncomputable def c20_10:=cL c20_9
noncomputable def b20_17:List Row:=[(0, 0, 4, 94, true), (0, 0, 4, 95, true), (2, 2, 19807040628566084398385987584, 96, true), (4, 6, 39614081257132168796771975168, 97, true), (8, 14, 79228162514264337593543950336, 98, true), (16, 30, 158456325028528675187087900672, 99, true), (32, 62, 316912650057057350374175801344, 100, true), (64, 126, 633825300114114700748351602688, 101, true), (128, 254, 1267650600228229401496703205376, 102, false), (0, 0, 4, 103, true), (769, 1023, 7615807121683659451179412226048, 104, false)]
noncomputable def c20_11:=cL c20_5
noncomputable def c20_12:=cR c20_11
noncomputable def c20_13:=cL c20_12
noncomputable def c20_14:=cL c20_13
noncomputable def c20_15:=cR c20_14
noncomputable def c20_16:=cR c20_15
noncomputable def c20_17:=cR c20_16
noncomputable def c20_18:=cL c20_16
noncomputable def c20_19:=cL c20_18
noncomputable def c20_20:=cR c20_19
noncomputable def c20_21:=cR c20_20
noncomputable def b20_14:List Row:=[(0, 0, 4, 80, true), (1, 1, 604462909807314587353088, 81, true), (2, 3, 1208925819614629174706176, 82, true), (4, 7, 2417851639229258349412352, 83, true), (8, 15, 4835703278458516698824704, 84, true), (16, 31, 9671406556917033397649408, 85, true), (32, 63, 19342813113834066795298816, 86, true), (0, 0, 512, 87, true), (128, 128, 77371252455336267181195264, 88, true), (0, 0, 512, 89, true), (512, 512, 309485009821345068724781056, 90, true), (1344, 2047, 812398150781030805402550272, 91, false)]
noncomputable def c20_22:=cL c20_20
noncomputable def c20_23:=cR c20_22
noncomputable def c20_24:=cL c20_23
noncomputable def c20_25:=cL c20_24
noncomputable def c20_26:=cR c20_25
noncomputable def c20_27:=cR c20_26
noncomputable def c20_28:=cR c20_27
noncomputable def c20_29:=cL c20_27
noncomputable def c20_30:=cL c20_29
noncomputable def c20_31:=cR c20_30
noncomputable def b20_12:List Row:=[(0, 0, 4, 67, true), (0, 0, 4, 68, true), (2, 2, 147573952589676412928, 69, true), (4, 6, 295147905179352825856, 70, true), (8, 14, 590295810358705651712, 71, true), (16, 30, 1180591620717411303424, 72, true), (32, 62, 2361183241434822606848, 73, true), (64, 126, 4722366482869645213696, 74, true), (0, 0, 2048, 75, true), (384, 510, 28334198897217871282176, 76, false), (0, 0, 512, 77, true), (1537, 2047, 113410582565166323335168, 78, false)]
noncomputable def c20_32:=cL c20_26
noncomputable def c20_33:=cL c20_15
noncomputable def c20_34:=cL c20_1
noncomputable def c20_35:=cR c20_34
noncomputable def c20_36:=cL c20_35
def c20_7_s:=reg20 c20_7 .ret (fun N M G k e w =>
 M (e 7) fun t104 =>
 M t104 fun t105 =>
 G (isB t105 false) (fun K => M (e 5) fun v => K v w) (fun t106 w =>
 G (isB t105 false) (fun K => M t106 fun v => K v w) (fun t107 w =>
 G (isB t107 true) (fun K => N (xv (loadAt 26 (e 2))) w K) (fun t108 w =>
 G (isB t107 true) (fun K => N (xnil t108) w K) (fun t109 w =>
 G (isB t107 true) (fun K => N (xv (fieldAt 92 t109 2)) w K) (fun t110 w =>
 G (isB t107 true) (fun K => N (xv (loadAt 89 t110)) w K) (fun t111 w =>
 G (isB t107 true) (fun K => N (xnil t111) w K) (fun t112 w =>
 G (isB t107 true) (fun K => N (xv (fieldAt 118 t112 2)) w K) (fun t113 w =>
 G (isB t107 true) (fun K => N (xv (loadAt 115 t113)) w K) (fun t114 w =>
 G (isB t107 true) (fun K => N (xcall (.func (.func 61) #[] #[]) [t114]) w K) (fun t115 w =>
 G (isB t107 true) (fun K => N (builtin Builtin.len #[40] 3 ([false]).toArray ([t115]).toArray) w K) (fun t116 w =>
 G (isB t107 true) (fun K => N (xv (xbin .gtr 3 (.tmp 116) (.const (.int .i64 0)) t116 (.int .i64 0))) w K) (fun t117 w =>
 G (isB t105 false) (fun K => N (xpick t107 t117 (.bool false)) w K) (fun t118 w =>
 N (xpick t105 (.bool true) t118) w fun t119 w =>
 M t119 fun t4 =>
 k (Env.p e 4 t4) w) w) w) w) w) w) w) w) w) w) w) w) w) w)
def c20_10_s:=drwE20 c20_10 b20_17 11 (fun N T M G H Y k e w =>
 T (FrX (some []) w) (xv (loadAt 26 (e 2))) fun t93 =>
 T (FrX (some []) w) (xv (loadAt 26 (e 2))) fun t94 =>
 T (FrX none w) (xnil t94) fun t95 =>
 T (FrX none w) (xv (fieldAt 92 t95 2)) fun t96 =>
 T (FrX (some []) w) (xv (loadAt 89 t96)) fun t97 =>
 T (FrX none w) (xnil t97) fun t98 =>
 T (FrX none w) (xv (fieldAt 118 t98 1)) fun t99 =>
 T (FrX (some []) w) (xv (loadAt 114 t99)) fun t100 =>
 T (FrX none w) (xv (Instr.makeFunc (Fn.func 69) ([]).toArray ([(e 2)]).toArray)) fun t102 =>
 N (xcall (.func (.func 68) #[] #[]) [t100]) w fun t101 w8 =>
 Y true (xv (loadAt 26 (e 2))) t93 w w8 ∧ (N (xcall (.func (.func 64) #[] #[]) [t93, t101, t102]) w8 fun t103 w10 =>
 k e w10))
def c20_9_s:=cond20 c20_9 .skip 92 c20_10
def c20_8_s:=reg20 c20_8 c20_9 (fun N M G k e w =>
 M (e 7) fun t92 =>
 k (Env.p e 92 t92) w)
def c20_6_s:=seq20 c20_6 c20_7 c20_8
def c20_17_s:=rend20 c20_17 (fun N M G k e w =>
 N (xv (xbin .add 3 (.tmp 55) (.const (.int .i64 1)) (e 55) (.int .i64 1))) w fun t91 w =>
 M t91 fun t55 =>
 k (Env.p e 55 t55) w)
def c20_21_s:=drwE20 c20_21 b20_14 12 (fun N T M G H Y k e w =>
 T (FrX (some []) w) (xv (loadAt 26 (e 2))) fun t79 =>
 T (FrX none w) (xnil t79) fun t80 =>
 T (FrX none w) (xv (fieldAt 92 t80 2)) fun t81 =>
 T (FrX (some []) w) (xv (loadAt 89 t81)) fun t82 =>
 T (FrX none w) (xnil t82) fun t83 =>
 T (FrX none w) (xv (fieldAt 118 t83 3)) fun t84 =>
 T (FrX (some []) w) (xv (loadAt 116 t84)) fun t85 =>
 T (FrX none w) (xv (fieldAt 38 (e 9) 0)) fun t86 =>
 T (FrX (some []) w) (xv (loadAt 2 t86)) fun t87 =>
 T (FrX none w) (xv (fieldAt 38 (e 9) 1)) fun t88 =>
 T (FrX (some []) w) (xv (loadAt 22 t88)) fun t89 =>
 N (xcall (.func (.func 67) #[] #[]) [t85, t87, t89]) w fun t90 w11 =>
 k e w11)
def c20_28_s:=rend20 c20_28 (fun N M G k e w =>
 N (xv (xbin .add 3 (.tmp 62) (.const (.int .i64 1)) (e 62) (.int .i64 1))) w fun t78 w =>
 M t78 fun t62 =>
 k (Env.p e 62 t62) w)
def c20_31_s:=drwE20 c20_31 b20_12 12 (fun N T M G H Y k e w =>
 T (FrX (some []) w) (xv (loadAt 26 (e 2))) fun t66 =>
 T (FrX (some []) w) (xv (loadAt 26 (e 2))) fun t67 =>
 T (FrX none w) (xnil t67) fun t68 =>
 T (FrX none w) (xv (fieldAt 92 t68 2)) fun t69 =>
 T (FrX (some []) w) (xv (loadAt 89 t69)) fun t70 =>
 T (FrX none w) (xnil t70) fun t71 =>
 T (FrX none w) (xv (fieldAt 118 t71 1)) fun t72 =>
 T (FrX (some []) w) (xv (loadAt 114 t72)) fun t73 =>
 M (e 11) fun t74 =>
 T (FrX none w) (xv (Instr.makeFunc (Fn.func 66) ([]).toArray ([(e 9)]).toArray)) fun t76 =>
 N (xcall (.func (.func 65) #[] #[]) [t73, t74]) w fun t75 w9 =>
 Y true (xv (loadAt 26 (e 2))) t66 w w9 ∧ (N (xcall (.func (.func 64) #[] #[]) [t66, t75, t76]) w9 fun t77 w11 =>
 k e w11))
def c20_30_s:=reg20 c20_30 c20_31 (fun N M G k e w =>
 N (xv (indexAt 22 (e 60) (e 62))) w fun t64 w =>
 N (xv (loadAt 9 t64)) w fun t65 w =>
 M t65 fun t11 =>
 k (Env.p e 11 t11) w)
def c20_29_s:=block20 c20_29 c20_30 3
def c20_27_s:=seq20 c20_27 c20_28 c20_29
def c20_32_s:=cond20 c20_32 (.exit 2) 63 .skip
def c20_26_s:=seq20 c20_26 c20_27 c20_32
def c20_25_s:=reg20 c20_25 c20_26 (fun N M G k e w =>
 N (xv (xbin .lss 3 (.tmp 62) (.tmp 61) (e 62) (e 61))) w fun t63 w =>
 k (Env.p e 63 t63) w)
def c20_24_s:=loop20 c20_24 c20_25
def c20_23_s:=block20 c20_23 c20_24 2
def c20_22_s:=reg20 c20_22 c20_23 (fun N M G k e w =>
 N (xv (fieldAt 38 (e 9) 1)) w fun t59 w =>
 N (xv (loadAt 22 t59)) w fun t60 w =>
 N (builtin Builtin.len #[22] 3 ([false]).toArray ([t60]).toArray) w fun t61 w =>
 M (.int .i64 0) fun t62 =>
 k (Env.p (Env.p (Env.p e 60 t60) 61 t61) 62 t62) w)
def c20_20_s:=seq20 c20_20 c20_21 c20_22
def c20_19_s:=reg20 c20_19 c20_20 (fun N M G k e w =>
 N (xv (indexAt 95 (e 53) (e 55))) w fun t57 w =>
 N (xv (loadAt 38 t57)) w fun t58 w =>
 N (xv (Instr.alloc 38 true (.tuple #[]))) w fun t9 w =>
 N (xu (storeAt 38 t9 t58)) w fun _ w =>
 k (Env.p e 9 t9) w)
def c20_18_s:=block20 c20_18 c20_19 1
def c20_16_s:=seq20 c20_16 c20_17 c20_18
def c20_33_s:=cond20 c20_33 (.exit 0) 56 .skip
def c20_15_s:=seq20 c20_15 c20_16 c20_33
def c20_14_s:=reg20 c20_14 c20_15 (fun N M G k e w =>
 N (xv (xbin .lss 3 (.tmp 55) (.tmp 54) (e 55) (e 54))) w fun t56 w =>
 k (Env.p e 56 t56) w)
def c20_13_s:=loop20 c20_13 c20_14
def c20_12_s:=block20 c20_12 c20_13 0
def c20_11_s:=reg20 c20_11 c20_12 (fun N M G k e w =>
 M (e 6) fun t53 =>
 N (builtin Builtin.len #[95] 3 ([false]).toArray ([t53]).toArray) w fun t54 w =>
 M (.int .i64 0) fun t55 =>
 k (Env.p (Env.p (Env.p e 53 t53) 54 t54) 55 t55) w)
def c20_5_s:=seq20 c20_5 c20_6 c20_11
def c20_4_s:=drw20 c20_4 c20_5 b20_5 16 (fun N T M G H Y k e w =>
 T (FrX (some []) w) (xv (loadAt 26 (e 2))) fun t40 =>
 T (FrX none w) (xnil t40) fun t41 =>
 T (FrX none w) (xv (fieldAt 92 t41 2)) fun t42 =>
 T (FrX (some []) w) (xv (loadAt 89 t42)) fun t43 =>
 T (FrX none w) (xnil t43) fun t44 =>
 T (FrX none w) (xv (fieldAt 118 t44 2)) fun t45 =>
 T (FrX (some []) w) (xv (loadAt 115 t45)) fun t46 =>
 T (FrX none w) (xv (fieldAt 38 (e 3) 0)) fun t47 =>
 T (FrX (some []) w) (xv (loadAt 2 t47)) fun t48 =>
 T (FrX (some []) w) (xv (loadAt 38 (e 3))) fun t49 =>
 N (xcall (.func (.func 63) #[] #[]) [t46, t48, t49]) w fun t50 w10 =>
 M t50 fun t39 =>
 T (FrX none w10) (xv (Instr.extract t39 0)) fun t51 =>
 T (FrX none w10) (xv (Instr.extract t39 1)) fun t52 =>
 M t51 fun t6 =>
 M t52 fun t7 =>
 k (Env.p (Env.p e 6 t6) 7 t7) w10)
def c20_3_s:=reg20 c20_3 c20_4 (fun N M G k e w =>
 N (xv (fieldAt 38 (e 3) 1)) w fun t35 w =>
 N (xv (loadAt 22 t35)) w fun t36 w =>
 N (xcall (.func (.func 62) #[] #[]) [t36]) w fun t37 w =>
 N (xv (fieldAt 38 (e 3) 1)) w fun t38 w =>
 N (xu (storeAt 22 t38 t37)) w fun _ w =>
 k e w)
def c20_2_s:=reg20 c20_2 c20_3 (fun N M G k e w =>
 N (xv (loadAt 26 (e 2))) w fun t25 w =>
 N (xnil t25) w fun t26 w =>
 N (xv (fieldAt 92 t26 2)) w fun t27 w =>
 N (xv (loadAt 89 t27)) w fun t28 w =>
 N (xnil t28) w fun t29 w =>
 N (xv (fieldAt 118 t29 2)) w fun t30 w =>
 N (xv (loadAt 115 t30)) w fun t31 w =>
 N (xcall (.func (.func 61) #[] #[]) [t31]) w fun t32 w =>
 N (builtin Builtin.len #[40] 3 ([false]).toArray ([t32]).toArray) w fun t33 w =>
 N (xv (xbin .eql 3 (.tmp 33) (.const (.int .i64 0)) t33 (.int .i64 0))) w fun t34 w =>
 M t34 fun t5 =>
 k (Env.p e 5 t5) w)
def c20_36_s:=reg20 c20_36 .ret (fun N M G k e w =>
 M (.bool false) fun t4 =>
 k (Env.p e 4 t4) w)
def c20_35_s:=cond20 c20_35 .skip 24 c20_36
def c20_34_s:=reg20 c20_34 c20_35 (fun N M G k e w =>
 N (xv (loadAt 26 (e 2))) w fun t12 w =>
 N (xcall (.func (.func 47) #[] #[]) [t12]) w fun t13 w =>
 N (xv (Op.unary .not t13)) w fun t14 w =>
 M t14 fun t15 =>
 G (isB t15 false) (fun K => N (xv (loadAt 26 (e 2))) w K) (fun t16 w =>
 G (isB t15 false) (fun K => N (xnil t16) w K) (fun t17 w =>
 G (isB t15 false) (fun K => N (xv (fieldAt 92 t17 2)) w K) (fun t18 w =>
 G (isB t15 false) (fun K => N (xv (loadAt 89 t18)) w K) (fun t19 w =>
 G (isB t15 false) (fun K => N (xnil t19) w K) (fun t20 w =>
 G (isB t15 false) (fun K => N (xv (fieldAt 118 t20 0)) w K) (fun t21 w =>
 G (isB t15 false) (fun K => N (xv (loadAt 4 t21)) w K) (fun t22 w =>
 G (isB t15 false) (fun K => N (xv (Op.unary .not t22)) w K) (fun t23 w =>
 N (xpick t15 (.bool true) t23) w fun t24 w =>
 k (Env.p e 24 t24) w) w) w) w) w) w) w) w) w)
def c20_1_s:=seq20 c20_1 c20_2 c20_34
def c20_s:=reg20 c20 c20_1 (fun N M G k e w =>
 N (xv (Instr.box 26 (e 0))) w fun t2 w =>
 N (xv (Instr.box 38 (e 1))) w fun t3 w =>
 M (.bool false) fun t4 =>
 k (Env.p (Env.p (Env.p e 2 t2) 3 t3) 4 t4) w)
theorem call20 {a0 a1 : Value} {w : World} {R : Value → World → Prop} (h : W3 Tryz.prog 120 V20 c20 (retQ Tryz.prog [.tmp 4] R) (argE [a0, a1]) w) : CallsN Tryz.prog 20 [a0, a1] w R :=
 callsN_of_W3 (c := c20) (rs := [.tmp 4]) V20 Tryz.ntmps20 (by rw [Tryz.results20]) mixed Tryz.func20 (by kernel_rfl) (by kernel_rfl) (by kernel_rfl) (by kernel_rfl) (by simp) h
def w3t_20:=w3t Tryz.prog 120 V20
def hk20 := aI @c20_7_s <| aI @c20_10_s <| aI @c20_9_s <| aI @c20_8_s <| aI @c20_6_s <| aI @c20_17_s <| aI @c20_21_s <| aI @c20_28_s <| aI @c20_31_s <| aI @c20_30_s <| aI @c20_29_s <| aI @c20_27_s <| aI @c20_32_s <| aI @c20_26_s <| aI @c20_25_s <| aI @c20_24_s <| aI @c20_23_s <| aI @c20_22_s <| aI @c20_20_s <| aI @c20_19_s <| aI @c20_18_s <| aI @c20_16_s <| aI @c20_33_s <| aI @c20_15_s <| aI @c20_14_s <| aI @c20_13_s <| aI @c20_12_s <| aI @c20_11_s <| aI @c20_5_s <| aI @c20_4_s <| aI @c20_3_s <| aI @c20_2_s <| aI @c20_36_s <| aI @c20_35_s <| aI @c20_34_s <| aI @c20_1_s <| aI @c20_s <| @w3t_20
-- K20: ↓hk20
/-! ### (*vouch/node.Node) . Apply$1 -/
def V66 : Nat → Bool := fun i => [0, 1, 2, 3, 4].elem i
def drw66:=@s_drw Tryz.prog 13 V66
def reg66:=@s_reg Tryz.prog 13 V66
noncomputable def c66:Code:=(Tryz.f66.body.getD .skip)
noncomputable def c66_1:=cR c66
noncomputable def b66_1:List Row:=[(0, 0, 2, 6, true), (1, 1, 32, 7, true), (0, 0, 4, 8, true), (4, 4, 128, 9, true), (8, 12, 256, 10, true), (0, 0, 2, 11, true), (32, 32, 1024, 12, true), (80, 124, 2560, 13, true), (3, 3, 64, 4, true), (511, 511, 4096, 5, true)]
def c66_1_s:=drw66 c66_1 .ret b66_1 10 (fun N T M G H Y k e w =>
 T (FrX none w) (xv (fieldAt 38 (e 1) 0)) fun t5 =>
 T (FrX (some []) w) (xv (loadAt 2 t5)) fun t6 =>
 T (FrX none w) (xv (fieldAt 52 (e 2) 0)) fun t7 =>
 T (FrX none w) (xv (fieldAt 34 t7 2)) fun t8 =>
 T (FrX (some []) w) (xv (loadAt 2 t8)) fun t9 =>
 T (FrX none w) (xv (fieldAt 38 (e 1) 0)) fun t10 =>
 T (FrX (some []) w) (xv (loadAt 2 t10)) fun t11 =>
 T (FrX none w) (xv (xbin .lss 2 (.tmp 9) (.tmp 11) t9 t11)) fun t12 =>
 M t6 fun t3 =>
 M t12 fun t4 =>
 k (Env.p (Env.p e 3 t3) 4 t4) w)
def c66_s:=reg66 c66 c66_1 (fun N M G k e w =>
 N (xv (Instr.box 52 (e 0))) w fun t2 w =>
 M (.int .i64 0) fun t3 =>
 M (.bool false) fun t4 =>
 k (Env.p (Env.p (Env.p e 2 t2) 3 t3) 4 t4) w)
theorem call66 {a0 a1 : Value} {w : World} {R : Value → World → Prop} (h : W3 Tryz.prog 13 V66 c66 (retQ Tryz.prog [.tmp 3, .tmp 4] R) (argE [a0, a1]) w) : CallsN Tryz.prog 66 [a0, a1] w R :=
 callsN_of_W3 (c := c66) (rs := [.tmp 3, .tmp 4]) V66 Tryz.ntmps66 (by rw [Tryz.results66]) mixed Tryz.func66 (by kernel_rfl) (by kernel_rfl) (by kernel_rfl) (by kernel_rfl) (by simp) h
def w3t_66:=w3t Tryz.prog 13 V66
def hk66 := aI @c66_1_s <| aI @c66_s <| @w3t_66
-- K66: ↓hk66
/-! ### (*vouch/node.Node) . Apply$2 -/
def V69 : Nat → Bool := fun i => [0, 1, 3, 4].elem i
def reg69:=@s_reg Tryz.prog 14 V69
noncomputable def c69:Code:=(Tryz.f69.body.getD .skip)
noncomputable def c69_1:=cR c69
def c69_1_s:=reg69 c69_1 .ret (fun N M G k e w =>
 N (xv (loadAt 26 (e 1))) w fun t5 w =>
 N (xnil t5) w fun t6 w =>
 N (xv (fieldAt 92 t6 2)) w fun t7 w =>
 N (xv (loadAt 89 t7)) w fun t8 w =>
 N (xnil t8) w fun t9 w =>
 N (xv (fieldAt 118 t9 2)) w fun t10 w =>
 N (xv (loadAt 115 t10)) w fun t11 w =>
 N (xcall (.func (.func 70) #[] #[]) [t11]) w fun t12 w =>
 N (xv (xbin .add 2 (.tmp 12) (.const (.int .i64 1)) t12 (.int .i64 1))) w fun t13 w =>
 M t13 fun t3 =>
 M (.bool true) fun t4 =>
 k (Env.p (Env.p e 3 t3) 4 t4) w)
def c69_s:=reg69 c69 c69_1 (fun N M G k e w =>
 N (xv (Instr.box 52 (e 0))) w fun t2 w =>
 M (.int .i64 0) fun t3 =>
 M (.bool false) fun t4 =>
 k (Env.p (Env.p e 3 t3) 4 t4) w)
theorem call69 {a0 a1 : Value} {w : World} {R : Value → World → Prop} (h : W3 Tryz.prog 14 V69 c69 (retQ Tryz.prog [.tmp 3, .tmp 4] R) (argE [a0, a1]) w) : CallsN Tryz.prog 69 [a0, a1] w R :=
 callsN_of_W3 (c := c69) (rs := [.tmp 3, .tmp 4]) V69 Tryz.ntmps69 (by rw [Tryz.results69]) mixed Tryz.func69 (by kernel_rfl) (by kernel_rfl) (by kernel_rfl) (by kernel_rfl) (by simp) h
def w3t_69:=w3t Tryz.prog 14 V69
def hk69 := aI @c69_1_s <| aI @c69_s <| @w3t_69
-- K69: ↓hk69
/-! ### (*vouch/node.Node) . View -/
def V23 : Nat → Bool := fun i => [0, 2, 4, 8].elem i
def cond23:=@s_cond Tryz.prog 66 V23
def drw23:=@s_drw Tryz.prog 66 V23
def reg23:=@s_reg Tryz.prog 66 V23
def seq23:=@s_seq Tryz.prog 66 V23
noncomputable def c23:Code:=(Tryz.f23.body.getD .skip)
noncomputable def c23_1:=cR c23
noncomputable def c23_2:=cR c23_1
noncomputable def c23_3:=cR c23_2
noncomputable def b23_5:List Row:=[(0, 0, 1, 15, true), (1, 1, 16384, 16, true), (2, 3, 32768, 17, true), (4, 7, 65536, 18, true), (8, 15, 131072, 19, true), (16, 31, 262144, 20, true), (32, 63, 524288, 21, true), (0, 0, 1, 22, true), (128, 128, 2097152, 23, true), (256, 384, 4194304, 24, true), (512, 896, 8388608, 25, true), (0, 0, 1, 26, true), (2048, 2048, 33554432, 27, true), (4096, 6144, 67108864, 28, true), (8192, 14336, 134217728, 29, true), (16384, 30720, 268435456, 30, true), (32768, 63488, 536870912, 31, true), (65536, 129024, 1073741824, 32, true), (131072, 260096, 2147483648, 33, false), (0, 0, 1, 34, true), (524288, 524288, 8589934592, 35, true), (1048576, 1572864, 17179869184, 36, true), (2097152, 3670016, 34359738368, 37, true), (4194304, 7864320, 68719476736, 38, true), (8388608, 16252928, 137438953472, 39, true), (16777216, 33030144, 274877906944, 40, true), (33816576, 67106816, 549755813888, 41, false), (0, 0, 1, 42, true), (134217728, 134217728, 2199023255552, 43, true), (268435456, 402653184, 4398046511104, 44, true), (536870912, 939524096, 8796093022208, 45, true), (1073741824, 2013265920, 17592186044416, 46, true), (2147483648, 4160749568, 35184372088832, 47, true), (4294967296, 8455716864, 70368744177664, 48, true), (8657043456, 17179867136, 140737488355328, 49, false), (0, 0, 1, 50, true), (34359738368, 34359738368, 562949953421312, 51, true), (68719476736, 103079215104, 1125899906842624, 52, true), (137438953472, 240518168576, 2251799813685248, 53, true), (274877906944, 515396075520, 4503599627370496, 54, true), (549755813888, 1065151889408, 9007199254740992, 55, true), (1099511627776, 2164663517184, 18014398509481984, 56, true), (2216203124736, 4398046509056, 36028797018963968, 57, false), (0, 0, 1, 58, true), (8796093022208, 8796093022208, 144115188075855872, 59, true), (17592186044416, 26388279066624, 288230376151711744, 60, true), (35184372088832, 61572651155456, 576460752303423488, 61, true), (70368744177664, 131941395333120, 1152921504606846976, 62, true), (140737488355328, 272678883688448, 2305843009213693952, 63, true), (281474976710656, 554153860399104, 4611686018427387904, 64, true), (567347999932416, 1125899906840576, 9223372036854775808, 65, false), (1130315200595008, 2251799813685247, 18519084246548611072, 66, true), (4503599627370495, 4503599627370495, 36893488147419103236, 0, false)]
noncomputable def c23_4:=cL c23_2
noncomputable def c23_5:=cR c23_4
noncomputable def c23_6:=cL c23_5
noncomputable def c23_7:=cL c23_1
noncomputable def c23_8:=cR c23_7
noncomputable def c23_9:=cL c23_8
def c23_3_s:=drw23 c23_3 .ret b23_5 53 (fun N T M G H Y k e w =>
 M (e 0) fun t14 =>
 T (FrX none w) (xnil t14) fun t15 =>
 T (FrX none w) (xv (fieldAt 92 t15 2)) fun t16 =>
 T (FrX (some []) w) (xv (loadAt 89 t16)) fun t17 =>
 T (FrX none w) (xnil t17) fun t18 =>
 T (FrX none w) (xv (fieldAt 118 t18 0)) fun t19 =>
 T (FrX (some []) w) (xv (loadAt 4 t19)) fun t20 =>
 M (e 0) fun t21 =>
 T (FrX none w) (xnil t21) fun t22 =>
 T (FrX none w) (xv (fieldAt 92 t22 1)) fun t23 =>
 T (FrX (some []) w) (xv (loadAt 3 t23)) fun t24 =>
 M (e 0) fun t25 =>
 T (FrX none w) (xnil t25) fun t26 =>
 T (FrX none w) (xv (fieldAt 92 t26 2)) fun t27 =>
 T (FrX (some []) w) (xv (loadAt 89 t27)) fun t28 =>
 T (FrX none w) (xnil t28) fun t29 =>
 T (FrX none w) (xv (fieldAt 118 t29 2)) fun t30 =>
 T (FrX (some []) w) (xv (loadAt 115 t30)) fun t31 =>
 M (e 0) fun t33 =>
 T (FrX none w) (xnil t33) fun t34 =>
 T (FrX none w) (xv (fieldAt 92 t34 2)) fun t35 =>
 T (FrX (some []) w) (xv (loadAt 89 t35)) fun t36 =>
 T (FrX none w) (xnil t36) fun t37 =>
 T (FrX none w) (xv (fieldAt 118 t37 3)) fun t38 =>
 T (FrX (some []) w) (xv (loadAt 116 t38)) fun t39 =>
 M (e 0) fun t41 =>
 T (FrX none w) (xnil t41) fun t42 =>
 T (FrX none w) (xv (fieldAt 92 t42 2)) fun t43 =>
 T (FrX (some []) w) (xv (loadAt 89 t43)) fun t44 =>
 T (FrX none w) (xnil t44) fun t45 =>
 T (FrX none w) (xv (fieldAt 118 t45 2)) fun t46 =>
 T (FrX (some []) w) (xv (loadAt 115 t46)) fun t47 =>
 M (e 0) fun t49 =>
 T (FrX none w) (xnil t49) fun t50 =>
 T (FrX none w) (xv (fieldAt 92 t50 2)) fun t51 =>
 T (FrX (some []) w) (xv (loadAt 89 t51)) fun t52 =>
 T (FrX none w) (xnil t52) fun t53 =>
 T (FrX none w) (xv (fieldAt 118 t53 1)) fun t54 =>
 T (FrX (some []) w) (xv (loadAt 114 t54)) fun t55 =>
 M (e 0) fun t57 =>
 T (FrX none w) (xnil t57) fun t58 =>
 T (FrX none w) (xv (fieldAt 92 t58 2)) fun t59 =>
 T (FrX (some []) w) (xv (loadAt 89 t59)) fun t60 =>
 T (FrX none w) (xnil t60) fun t61 =>
 T (FrX none w) (xv (fieldAt 118 t61 1)) fun t62 =>
 T (FrX (some []) w) (xv (loadAt 114 t62)) fun t63 =>
 N (xcall (.func (.func 70) #[] #[]) [t31]) w fun t32 w18 =>
 Y true (xv (loadAt 114 t62)) t63 w w18 ∧ (Y true (xv (loadAt 89 t59)) t60 w w18 ∧ (Y true (xv (loadAt 114 t54)) t55 w w18 ∧ (Y true (xv (loadAt 89 t51)) t52 w w18 ∧ (Y true (xv (loadAt 115 t46)) t47 w w18 ∧ (Y true (xv (loadAt 89 t43)) t44 w w18 ∧ (Y true (xv (loadAt 116 t38)) t39 w w18 ∧ (Y true (xv (loadAt 89 t35)) t36 w w18 ∧ (Y true (xv (loadAt 3 t23)) t24 w w18 ∧ (Y true (xv (loadAt 4 t19)) t20 w w18 ∧ (Y true (xv (loadAt 89 t16)) t17 w w18 ∧ (N (xcall (.func (.func 77) #[] #[]) [t39]) w18 fun t40 w26 =>
 Y true (xv (loadAt 114 t62)) t63 w w26 ∧ (Y true (xv (loadAt 89 t59)) t60 w w26 ∧ (Y true (xv (loadAt 114 t54)) t55 w w26 ∧ (Y true (xv (loadAt 89 t51)) t52 w w26 ∧ (Y true (xv (loadAt 115 t46)) t47 w w26 ∧ (Y true (xv (loadAt 89 t43)) t44 w w26 ∧ (Y true (xv (loadAt 3 t23)) t24 w w26 ∧ (Y true (xv (loadAt 4 t19)) t20 w w26 ∧ (Y true (xv (loadAt 89 t16)) t17 w w26 ∧ (N (xcall (.func (.func 61) #[] #[]) [t47]) w26 fun t48 w34 =>
 Y true (xv (loadAt 114 t62)) t63 w w34 ∧ (Y true (xv (loadAt 89 t59)) t60 w w34 ∧ (Y true (xv (loadAt 114 t54)) t55 w w34 ∧ (Y true (xv (loadAt 89 t51)) t52 w w34 ∧ (Y true (xv (loadAt 3 t23)) t24 w w34 ∧ (Y true (xv (loadAt 4 t19)) t20 w w34 ∧ (Y true (xv (loadAt 89 t16)) t17 w w34 ∧ (N (xcall (.func (.func 78) #[] #[]) [t55]) w34 fun t56 w42 =>
 Y true (xv (loadAt 114 t62)) t63 w w42 ∧ (Y true (xv (loadAt 89 t59)) t60 w w42 ∧ (Y true (xv (loadAt 3 t23)) t24 w w42 ∧ (Y true (xv (loadAt 4 t19)) t20 w w42 ∧ (Y true (xv (loadAt 89 t16)) t17 w w42 ∧ (N (xcall (.func (.func 68) #[] #[]) [t63]) w42 fun t64 w50 =>
 Y true (xv (loadAt 3 t23)) t24 w w50 ∧ (Y true (xv (loadAt 4 t19)) t20 w w50 ∧ (Y true (xv (loadAt 89 t16)) t17 w w50 ∧ (T (FrX none w50) (xv (Instr.build 43 ([(0, (.bool true)), (1, t20), (2, t24), (3, t32), (4, t40), (5, t48), (6, t56), (7, t64)]).toArray)) fun t65 =>
 N (xu (storeAt 43 (e 2) t65)) w50 fun _ w52 =>
 k e w52))))))))))))))))))))))))))))))))))))
def c23_6_s:=reg23 c23_6 .ret (fun N M G k e w =>
 M (e 0) fun t9 =>
 N (xnil t9) w fun t10 w =>
 N (xv (fieldAt 92 t10 1)) w fun t11 w =>
 N (xv (loadAt 3 t11)) w fun t12 w =>
 N (xv (Instr.build 43 ([(2, t12)]).toArray)) w fun t13 w =>
 N (xu (storeAt 43 (e 2) t13)) w fun _ w =>
 k e w)
def c23_5_s:=cond23 c23_5 .skip 8 c23_6
def c23_4_s:=reg23 c23_4 c23_5 (fun N M G k e w =>
 M (e 0) fun t6 =>
 N (xcall (.func (.func 47) #[] #[]) [t6]) w fun t7 w =>
 N (xv (Op.unary .not t7)) w fun t8 w =>
 k (Env.p e 8 t8) w)
def c23_2_s:=seq23 c23_2 c23_3 c23_4
def c23_9_s:=reg23 c23_9 .ret (fun N M G k e w =>
 N (xv (Instr.build 43 ([]).toArray)) w fun t5 w =>
 N (xu (storeAt 43 (e 2) t5)) w fun _ w =>
 k e w)
def c23_8_s:=cond23 c23_8 .skip 4 c23_9
def c23_7_s:=reg23 c23_7 c23_8 (fun N M G k e w =>
 M (e 0) fun t3 =>
 N (xv (xbin .eql 26 (.tmp 3) (.const (.pointer none)) t3 (.pointer none))) w fun t4 w =>
 k (Env.p e 4 t4) w)
def c23_1_s:=seq23 c23_1 c23_2 c23_7
def c23_s:=reg23 c23 c23_1 (fun N M G k e w =>
 N (xv (Instr.alloc 43 true (.tuple #[]))) w fun t2 w =>
 k (Env.p e 2 t2) w)
theorem call23 {a0 : Value} {w : World} {R : Value → World → Prop} (h : W3 Tryz.prog 66 V23 c23 (retQ Tryz.prog [.cell 2 43] R) (argE [a0]) w) : CallsN Tryz.prog 23 [a0] w R :=
 callsN_of_W3 (c := c23) (rs := [.cell 2 43]) V23 Tryz.ntmps23 (by rw [Tryz.results23]) mixed Tryz.func23 (by kernel_rfl) (by kernel_rfl) (by kernel_rfl) (by kernel_rfl) (by simp) h
def w3t_23:=w3t Tryz.prog 66 V23
def hk23 := aI @c23_3_s <| aI @c23_6_s <| aI @c23_5_s <| aI @c23_4_s <| aI @c23_2_s <| aI @c23_9_s <| aI @c23_8_s <| aI @c23_7_s <| aI @c23_1_s <| aI @c23_s <| @w3t_23
-- K23: ↓hk23
/-! ### (*vouch/node.Node) . Look -/
def V25 : Nat → Bool := fun i => [0, 1, 2, 5, 6, 7, 8, 9, 10, 11, 14, 39].elem i
def cond25:=@s_cond Tryz.prog 64 V25
def drw25:=@s_drw Tryz.prog 64 V25
def reg25:=@s_reg Tryz.prog 64 V25
def seq25:=@s_seq Tryz.prog 64 V25
noncomputable def c25:Code:=(Tryz.f25.body.getD .skip)
noncomputable def c25_1:=cR c25
noncomputable def c25_2:=cR c25_1
noncomputable def b25_3:List Row:=[(0, 0, 1, 19, true), (1, 1, 262144, 20, true), (2, 3, 524288, 21, true), (4, 7, 1048576, 22, true), (8, 15, 2097152, 23, true), (16, 31, 4194304, 24, true), (32, 63, 8388608, 25, true), (0, 0, 2, 26, true), (0, 0, 1, 27, true), (256, 256, 67108864, 28, true), (512, 768, 134217728, 29, true), (1024, 1792, 268435456, 30, true), (2048, 3840, 536870912, 31, true), (4096, 7936, 1073741824, 32, true), (8192, 16128, 2147483648, 33, true), (16384, 32512, 4294967296, 34, false), (0, 0, 32, 35, true), (98496, 131071, 25820135424, 36, false), (131072, 262143, 34359738368, 18, true), (262144, 524287, 131072, 37, true), (262144, 524287, 131072, 38, true), (0, 0, 0, 10, false), (3145727, 3145727, 68719477248, 0, false), (8388607, 8388607, 137438953472, 11, true)]
noncomputable def c25_3:=cR c25_2
noncomputable def c25_4:=cR c25_3
noncomputable def c25_5:=cR c25_4
noncomputable def b25_7:List Row:=[(0, 0, 512, 46, true), (1, 1, 35184372088832, 47, true), (0, 0, 1, 48, true), (4, 4, 140737488355328, 49, true), (8, 12, 281474976710656, 50, true), (16, 28, 562949953421312, 51, true), (32, 60, 1125899906842624, 52, true), (64, 124, 2251799813685248, 53, true), (128, 252, 4503599627370496, 54, true), (256, 508, 9007199254740992, 55, false), (514, 1023, 18084767253659648, 56, false), (0, 0, 0, 12, false), (4095, 4095, 36028797018966016, 0, false)]
noncomputable def c25_6:=cR c25_5
noncomputable def b25_8:List Row:=[(0, 0, 512, 57, true), (1, 1, 72057594037927936, 58, true), (2, 3, 144115188075855872, 59, true), (0, 0, 2048, 60, true), (8, 8, 576460752303423488, 61, true), (0, 0, 2048, 62, true), (32, 32, 2305843009213693952, 63, true), (80, 120, 5764607523034234880, 64, true), (7, 7, 288230376151711808, 0, false), (511, 511, 9223372036854775936, 0, false), (1023, 1023, 0, 9, true)]
noncomputable def c25_7:=cL c25_3
noncomputable def c25_8:=cR c25_7
noncomputable def c25_9:=cL c25_8
noncomputable def c25_10:=cL c25_1
noncomputable def c25_11:=cR c25_10
noncomputable def c25_12:=cL c25_11
def c25_6_s:=drw25 c25_6 .ret b25_8 11 (fun N T M G H Y k e w =>
 T (FrX none w) (xv (fieldAt 52 (e 9) 0)) fun t56 =>
 T (FrX none w) (xv (fieldAt 34 t56 1)) fun t57 =>
 T (FrX (some []) w) (xv (loadAt 31 t57)) fun t58 =>
 T (FrX none w) (xv (fieldAt 135 (e 11) 0)) fun t59 =>
 T (FrX (some []) w) (xv (loadAt 2 t59)) fun t60 =>
 T (FrX none w) (xv (fieldAt 135 (e 11) 1)) fun t61 =>
 T (FrX (some []) w) (xv (loadAt 2 t61)) fun t62 =>
 T (FrX none w) (xv (Instr.build 48 ([(0, t60), (1, t62)]).toArray)) fun t63 =>
 N (xu (storeAt 31 (e 6) t58)) w fun _ w8 =>
 Y true (xv (loadAt 2 t61)) t62 w w8 ∧ (Y true (xv (loadAt 2 t59)) t60 w w8 ∧ (N (xu (storeAt 48 (e 7) t63)) w8 fun _ w9 =>
 M (.bool true) fun t8 =>
 k (Env.p e 8 t8) w9)))
def c25_5_s:=drw25 c25_5 c25_6 b25_7 13 (fun N T M G H Y k e w =>
 T (FrX none w) (xv (fieldAt 52 (e 9) 0)) fun t45 =>
 T (FrX (some []) w) (xv (loadAt 34 t45)) fun t46 =>
 M (e 0) fun t47 =>
 T (FrX none w) (xnil t47) fun t48 =>
 T (FrX none w) (xv (fieldAt 92 t48 2)) fun t49 =>
 T (FrX (some []) w) (xv (loadAt 89 t49)) fun t50 =>
 T (FrX none w) (xnil t50) fun t51 =>
 T (FrX none w) (xv (fieldAt 118 t51 2)) fun t52 =>
 T (FrX (some []) w) (xv (loadAt 115 t52)) fun t53 =>
 (N (xcall (.func (.func 70) #[] #[]) [t53]) w fun t54 w9 =>
 Y true (xv (loadAt 34 t45)) t46 w w9 ∧ ((N (xcall (.func (.func 82) #[] #[]) [t46, t54]) w9 fun t55 w10 =>
 N (xv (Instr.alloc 135 true (.tuple #[]))) w10 fun t11 w11 =>
 N (xu (storeAt 135 t11 t55)) w11 fun _ w12 =>
 k (Env.p e 11 t11) w12) ∧ (N (xv (Instr.alloc 135 true (.tuple #[]))) w9 fun t11 w11 =>
 Y true (xv (loadAt 34 t45)) t46 w w11 ∧ (N (xcall (.func (.func 82) #[] #[]) [t46, t54]) w11 fun t55 w10 =>
 N (xu (storeAt 135 t11 t55)) w10 fun _ w12 =>
 k (Env.p e 11 t11) w12)))) ∧ (N (xv (Instr.alloc 135 true (.tuple #[]))) w fun t11 w11 =>
 Y true (xv (loadAt 115 t52)) t53 w w11 ∧ (Y true (xv (loadAt 89 t49)) t50 w w11 ∧ (Y true (xv (loadAt 34 t45)) t46 w w11 ∧ (N (xcall (.func (.func 70) #[] #[]) [t53]) w11 fun t54 w9 =>
 Y true (xv (loadAt 34 t45)) t46 w w9 ∧ (N (xcall (.func (.func 82) #[] #[]) [t46, t54]) w9 fun t55 w10 =>
 N (xu (storeAt 135 t11 t55)) w10 fun _ w12 =>
 k (Env.p e 11 t11) w12))))))
def c25_4_s:=reg25 c25_4 c25_5 (fun N M G k e w =>
 M (e 0) fun t42 =>
 N (xv (loadAt 52 (e 9))) w fun t43 w =>
 N (xcall (.func (.func 81) #[] #[]) [t42, t43]) w fun t44 w =>
 k e w)
def c25_9_s:=reg25 c25_9 .ret (fun N M G k e w =>
 N (xv (Instr.build 31 ([]).toArray)) w fun t40 w =>
 N (xv (Instr.build 48 ([]).toArray)) w fun t41 w =>
 N (xu (storeAt 31 (e 6) t40)) w fun _ w =>
 N (xu (storeAt 48 (e 7) t41)) w fun _ w =>
 M (.bool false) fun t8 =>
 k (Env.p e 8 t8) w)
def c25_8_s:=cond25 c25_8 .skip 39 c25_9
def c25_7_s:=reg25 c25_7 c25_8 (fun N M G k e w =>
 M (e 10) fun t38 =>
 N (xv (Op.unary .not t38)) w fun t39 w =>
 k (Env.p e 39 t39) w)
def c25_3_s:=seq25 c25_3 c25_4 c25_7
def c25_2_s:=drw25 c25_2 c25_3 b25_3 24 (fun N T M G H Y k e w =>
 M (e 0) fun t18 =>
 T (FrX none w) (xnil t18) fun t19 =>
 T (FrX none w) (xv (fieldAt 92 t19 2)) fun t20 =>
 T (FrX (some []) w) (xv (loadAt 89 t20)) fun t21 =>
 T (FrX none w) (xnil t21) fun t22 =>
 T (FrX none w) (xv (fieldAt 118 t22 1)) fun t23 =>
 T (FrX (some []) w) (xv (loadAt 114 t23)) fun t24 =>
 M (e 1) fun t25 =>
 M (e 0) fun t26 =>
 T (FrX none w) (xnil t26) fun t27 =>
 T (FrX none w) (xv (fieldAt 92 t27 2)) fun t28 =>
 T (FrX (some []) w) (xv (loadAt 89 t28)) fun t29 =>
 T (FrX none w) (xnil t29) fun t30 =>
 T (FrX none w) (xv (fieldAt 118 t30 2)) fun t31 =>
 T (FrX (some []) w) (xv (loadAt 115 t31)) fun t32 =>
 T (FrX (some []) w) (xv (loadAt 48 (e 5))) fun t34 =>
 (N (xcall (.func (.func 70) #[] #[]) [t32]) w fun t33 w15 =>
 Y true (xv (loadAt 48 (e 5))) t34 w w15 ∧ (Y true (xv (loadAt 114 t23)) t24 w w15 ∧ (Y true (xv (loadAt 89 t20)) t21 w w15 ∧ ((N (xcall (.func (.func 80) #[] #[]) [t24, t25, t33, t34]) w15 fun t35 w17 =>
 M t35 fun t17 =>
 T (FrX none w17) (xv (Instr.extract t17 0)) fun t36 =>
 T (FrX none w17) (xv (Instr.extract t17 1)) fun t37 =>
 N (xv (Instr.alloc 52 true (.tuple #[]))) w17 fun t9 w21 =>
 N (xu (storeAt 52 t9 t36)) w21 fun _ w22 =>
 M t37 fun t10 =>
 k (Env.p (Env.p e 9 t9) 10 t10) w22) ∧ (N (xv (Instr.alloc 52 true (.tuple #[]))) w15 fun t9 w21 =>
 Y true (xv (loadAt 48 (e 5))) t34 w w21 ∧ (Y true (xv (loadAt 114 t23)) t24 w w21 ∧ (Y true (xv (loadAt 89 t20)) t21 w w21 ∧ (N (xcall (.func (.func 80) #[] #[]) [t24, t25, t33, t34]) w21 fun t35 w17 =>
 M t35 fun t17 =>
 T (FrX none w17) (xv (Instr.extract t17 0)) fun t36 =>
 T (FrX none w17) (xv (Instr.extract t17 1)) fun t37 =>
 N (xu (storeAt 52 t9 t36)) w17 fun _ w22 =>
 M t37 fun t10 =>
 k (Env.p (Env.p e 9 t9) 10 t10) w22)))))))) ∧ (N (xv (Instr.alloc 52 true (.tuple #[]))) w fun t9 w21 =>
 Y true (xv (loadAt 48 (e 5))) t34 w w21 ∧ (Y true (xv (loadAt 115 t31)) t32 w w21 ∧ (Y true (xv (loadAt 89 t28)) t29 w w21 ∧ (Y true (xv (loadAt 114 t23)) t24 w w21 ∧ (Y true (xv (loadAt 89 t20)) t21 w w21 ∧ (N (xcall (.func (.func 70) #[] #[]) [t32]) w21 fun t33 w15 =>
 Y true (xv (loadAt 48 (e 5))) t34 w w15 ∧ (Y true (xv (loadAt 114 t23)) t24 w w15 ∧ (Y true (xv (loadAt 89 t20)) t21 w w15 ∧ (N (xcall (.func (.func 80) #[] #[]) [t24, t25, t33, t34]) w15 fun t35 w17 =>
 M t35 fun t17 =>
 T (FrX none w17) (xv (Instr.extract t17 0)) fun t36 =>
 T (FrX none w17) (xv (Instr.extract t17 1)) fun t37 =>
 N (xu (storeAt 52 t9 t36)) w17 fun _ w22 =>
 M t37 fun t10 =>
 k (Env.p (Env.p e 9 t9) 10 t10) w22))))))))))
def c25_12_s:=reg25 c25_12 .ret (fun N M G k e w =>
 N (xv (Instr.build 31 ([]).toArray)) w fun t15 w =>
 N (xv (Instr.build 48 ([]).toArray)) w fun t16 w =>
 N (xu (storeAt 31 (e 6) t15)) w fun _ w =>
 N (xu (storeAt 48 (e 7) t16)) w fun _ w =>
 M (.bool false) fun t8 =>
 k (Env.p e 8 t8) w)
def c25_11_s:=cond25 c25_11 .skip 14 c25_12
def c25_10_s:=reg25 c25_10 c25_11 (fun N M G k e w =>
 M (e 0) fun t12 =>
 N (xcall (.func (.func 47) #[] #[]) [t12]) w fun t13 w =>
 N (xv (Op.unary .not t13)) w fun t14 w =>
 k (Env.p e 14 t14) w)
def c25_1_s:=seq25 c25_1 c25_2 c25_10
def c25_s:=reg25 c25 c25_1 (fun N M G k e w =>
 N (xv (Instr.box 48 (e 2))) w fun t5 w =>
 N (xv (Instr.alloc 31 true (.tuple #[]))) w fun t6 w =>
 N (xv (Instr.alloc 48 true (.tuple #[]))) w fun t7 w =>
 M (.bool false) fun t8 =>
 k (Env.p (Env.p (Env.p (Env.p e 5 t5) 6 t6) 7 t7) 8 t8) w)
theorem call25 {a0 a1 a2 : Value} {w : World} {R : Value → World → Prop} (h : W3 Tryz.prog 64 V25 c25 (retQ Tryz.prog [.cell 6 31, .cell 7 48, .tmp 8] R) (argE [a0, a1, a2]) w) : CallsN Tryz.prog 25 [a0, a1, a2] w R :=
 callsN_of_W3 (c := c25) (rs := [.cell 6 31, .cell 7 48, .tmp 8]) V25 Tryz.ntmps25 (by rw [Tryz.results25]) mixed Tryz.func25 (by kernel_rfl) (by kernel_rfl) (by kernel_rfl) (by kernel_rfl) (by simp) h
def w3t_25:=w3t Tryz.prog 64 V25
def hk25 := aI @c25_6_s <| aI @c25_5_s <| aI @c25_4_s <| aI @c25_9_s <| aI @c25_8_s <| aI @c25_7_s <| aI @c25_3_s <| aI @c25_2_s <| aI @c25_12_s <| aI @c25_11_s <| aI @c25_10_s <| aI @c25_1_s <| aI @c25_s <| @w3t_25
-- K25: ↓hk25
/-! ### vouch/node.fresh -/
def V44 : Nat → Bool := fun i => [0, 1, 2, 3, 6].elem i
def drw44:=@s_drw Tryz.prog 19 V44
def reg44:=@s_reg Tryz.prog 19 V44
noncomputable def c44:Code:=(Tryz.f44.body.getD .skip)
noncomputable def c44_1:=cR c44
noncomputable def b44_1:List Row:=[(0, 0, 2, 8, true), (0, 0, 0, 9, false), (0, 0, 4, 10, true), (0, 0, 8, 11, true), (8, 8, 1024, 12, true), (22, 30, 2560, 13, false), (0, 0, 8, 14, true), (64, 64, 8192, 15, true), (0, 0, 4, 16, true), (416, 510, 49152, 17, false), (547, 1023, 70016, 18, true), (1024, 2047, 131072, 19, false), (4095, 4095, 262144, 7, true)]
def c44_1_s:=drw44 c44_1 .ret b44_1 13 (fun N T M G H Y k e w =>
 M (e 1) fun t7 =>
 M (e 2) fun t9 =>
 T (FrX none w) (xv (fieldAt 25 (e 3) 3)) fun t10 =>
 T (FrX (some []) w) (xv (loadAt 3 t10)) fun t11 =>
 T (FrX none w) (xv (fieldAt 25 (e 3) 4)) fun t13 =>
 T (FrX (some []) w) (xv (loadAt 3 t13)) fun t14 =>
 M (e 2) fun t15 =>
 N (xcall (.func (.func 107) #[] #[]) []) w fun t8 w1 =>
 Y true (xv (loadAt 3 t13)) t14 w w1 ∧ (Y true (xv (loadAt 3 t10)) t11 w w1 ∧ (N (xcall (.func (.func 108) #[] #[]) [t9, t11]) w1 fun t12 w5 =>
 Y true (xv (loadAt 3 t13)) t14 w w5 ∧ (N (xcall (.func (.func 85) #[] #[]) [t14, t15]) w5 fun t16 w9 =>
 T (FrX none w9) (xv (Instr.build 118 ([(0, t7), (1, t8), (2, t12), (3, t16)]).toArray)) fun t17 =>
 N (xv (Instr.box 118 t17)) w9 fun t18 w11 =>
 M t18 fun t6 =>
 k (Env.p e 6 t6) w11))))
def c44_s:=reg44 c44 c44_1 (fun N M G k e w =>
 N (xv (Instr.box 25 (e 0))) w fun t3 w =>
 M (.pointer none) fun t6 =>
 k (Env.p (Env.p e 3 t3) 6 t6) w)
theorem call44 {a0 a1 a2 : Value} {w : World} {R : Value → World → Prop} (h : W3 Tryz.prog 19 V44 c44 (retQ Tryz.prog [.tmp 6] R) (argE [a0, a1, a2]) w) : CallsN Tryz.prog 44 [a0, a1, a2] w R :=
 callsN_of_W3 (c := c44) (rs := [.tmp 6]) V44 Tryz.ntmps44 (by rw [Tryz.results44]) mixed Tryz.func44 (by kernel_rfl) (by kernel_rfl) (by kernel_rfl) (by kernel_rfl) (by simp) h
def w3t_44:=w3t Tryz.prog 19 V44
def hk44 := aI @c44_1_s <| aI @c44_s <| @w3t_44
-- K44: ↓hk44
/-! ### (*vouch/node.Node) . up -/
def V47 : Nat → Bool := fun i => [0, 2].elem i
def reg47:=@s_reg Tryz.prog 12 V47
noncomputable def c47:Code:=(Tryz.f47.body.getD .skip)
noncomputable def c47_1:=cR c47
def c47_1_s:=reg47 c47_1 .ret (fun N M G k e w =>
 M (e 0) fun t3 =>
 N (xv (xbin .neq 26 (.tmp 3) (.const (.pointer none)) t3 (.pointer none))) w fun t4 w =>
 M t4 fun t5 =>
 G (isB t5 true) (fun K => M (e 0) fun v => K v w) (fun t6 w =>
 G (isB t5 true) (fun K => N (xnil t6) w K) (fun t7 w =>
 G (isB t5 true) (fun K => N (xv (fieldAt 92 t7 2)) w K) (fun t8 w =>
 G (isB t5 true) (fun K => N (xv (loadAt 89 t8)) w K) (fun t9 w =>
 G (isB t5 true) (fun K => N (xv (xbin .neq 89 (.tmp 9) (.const (.pointer none)) t9 (.pointer none))) w K) (fun t10 w =>
 N (xpick t5 t10 (.bool false)) w fun t11 w =>
 M t11 fun t2 =>
 k (Env.p e 2 t2) w) w) w) w) w) w)
def c47_s:=reg47 c47 c47_1 (fun N M G k e w =>
 M (.bool false) fun t2 =>
 k (Env.p e 2 t2) w)
theorem call47 {a0 : Value} {w : World} {R : Value → World → Prop} (h : W3 Tryz.prog 12 V47 c47 (retQ Tryz.prog [.tmp 2] R) (argE [a0]) w) : CallsN Tryz.prog 47 [a0] w R :=
 callsN_of_W3 (c := c47) (rs := [.tmp 2]) V47 Tryz.ntmps47 (by rw [Tryz.results47]) mixed Tryz.func47 (by kernel_rfl) (by kernel_rfl) (by kernel_rfl) (by kernel_rfl) (by simp) h
def w3t_47:=w3t Tryz.prog 12 V47
def hk47 := aI @c47_1_s <| aI @c47_s <| @w3t_47
-- K47: ↓hk47
/-! ### (*vouch/node.Node) . lay -/
def V49 : Nat → Bool := fun i => [0, 1, 2, 3, 4, 5, 6, 7, 8, 9, 25, 41, 61].elem i
def cond49:=@s_cond Tryz.prog 112 V49
def drw49:=@s_drw Tryz.prog 112 V49
def drwE49:=@s_drwE Tryz.prog 112 V49
def reg49:=@s_reg Tryz.prog 112 V49
def seq49:=@s_seq Tryz.prog 112 V49
noncomputable def c49:Code:=(Tryz.f49.body.getD .skip)
noncomputable def c49_1:=cR c49
noncomputable def c49_2:=cR c49_1
noncomputable def c49_3:=cR c49_2
noncomputable def c49_4:=cR c49_3
noncomputable def b49_11:List Row:=[(0, 0, 8, 73, true), (0, 0, 4, 74, true), (2, 2, 9444732965739290427392, 75, true), (4, 6, 18889465931478580854784, 76, true), (8, 14, 37778931862957161709568, 77, true), (16, 30, 75557863725914323419136, 78, false), (0, 0, 4, 79, true), (64, 64, 302231454903657293676544, 80, true), (128, 192, 604462909807314587353088, 81, true), (256, 448, 1208925819614629174706176, 82, true), (512, 960, 2417851639229258349412352, 83, true), (1024, 1984, 4835703278458516698824704, 84, true), (2048, 4032, 9671406556917033397649408, 85, true), (4129, 8191, 19498651207768765087350784, 86, true), (0, 0, 0, 10, false), (32767, 32767, 38685626227668133590598144, 0, false)]
noncomputable def c49_5:=cR c49_4
noncomputable def b49_12:List Row:=[(0, 0, 4, 87, true), (1, 1, 77371252455336267181195264, 88, true), (2, 3, 154742504910672534362390528, 89, true), (4, 7, 309485009821345068724781056, 90, true), (8, 15, 618970019642690137449562112, 91, true), (16, 31, 1237940039285380274899124224, 92, true), (32, 63, 2475880078570760549798248448, 93, true), (0, 0, 512, 94, true), (192, 255, 14855280471424563298789490688, 95, false)]
noncomputable def c49_6:=cR c49_5
noncomputable def c49_7:=cR c49_6
noncomputable def b49_14:List Row:=[(0, 0, 4, 101, true), (0, 0, 512, 102, true), (0, 0, 4, 103, true), (4, 4, 5070602400912917605986812821504, 104, true), (8, 12, 10141204801825835211973625643008, 105, true), (16, 28, 20282409603651670423947251286016, 106, true), (32, 60, 40564819207303340847894502572032, 107, true), (64, 124, 81129638414606681695789005144064, 108, true), (128, 252, 162259276829213363391578010288128, 109, true), (256, 508, 324518553658426726783156020576256, 110, true), (0, 0, 4, 111, true), (1539, 2047, 1950914273751245048903426233073664, 112, false)]
noncomputable def c49_8:=cR c49_7
noncomputable def c49_9:=cL c49_2
noncomputable def b49_8:List Row:=[(0, 0, 8, 55, true), (1, 1, 18014398509481984, 56, false), (0, 0, 4, 57, true), (4, 4, 72057594037927936, 58, true), (8, 12, 144115188075855872, 59, true), (16, 28, 288230376151711744, 60, true), (32, 60, 576460752303423488, 61, true), (66, 127, 1188950301625810944, 62, true)]
noncomputable def c49_10:=cR c49_9
noncomputable def c49_11:=cL c49_10
noncomputable def c49_12:=cL c49_1
noncomputable def b49_1:List Row:=[(0, 0, 4, 12, true), (1, 1, 2048, 13, true), (2, 3, 4096, 14, true), (4, 7, 8192, 15, true), (8, 15, 16384, 16, true), (16, 31, 32768, 17, true), (32, 63, 65536, 18, true), (0, 0, 8, 19, true), (128, 128, 262144, 20, true), (0, 0, 8, 21, true), (512, 512, 1048576, 22, true), (1344, 2047, 2752512, 23, false), (2048, 4095, 4194304, 11, true), (4096, 8191, 1024, 24, true), (4096, 8191, 1024, 25, true), (0, 0, 0, 6, false), (49151, 49151, 8388640, 0, false), (131071, 131071, 16777216, 7, true)]
noncomputable def c49_13:=cR c49_12
noncomputable def c49_14:=cR c49_13
noncomputable def c49_15:=cL c49_14
noncomputable def b49_3:List Row:=[(0, 0, 32, 28, true), (1, 1, 134217728, 29, true), (0, 0, 8, 30, true), (0, 0, 4, 31, true), (8, 8, 1073741824, 32, true), (16, 24, 2147483648, 33, true), (32, 56, 4294967296, 34, true), (64, 120, 8589934592, 35, true), (128, 248, 17179869184, 36, true), (256, 504, 34359738368, 37, true), (512, 1016, 68719476736, 38, false), (1030, 2047, 138244259840, 39, false), (2048, 4095, 274877906944, 27, true), (4096, 8191, 67108864, 40, true), (4096, 8191, 67108864, 41, true), (0, 0, 0, 8, false), (49151, 49151, 549755814016, 0, false), (131071, 131071, 1099511627776, 9, true)]
noncomputable def c49_16:=cR c49_15
noncomputable def c49_17:=cR c49_16
noncomputable def c49_18:=cL c49_16
noncomputable def c49_19:=cR c49_18
noncomputable def c49_20:=cL c49_19
noncomputable def c49_21:=cR c49_20
noncomputable def b49_6:List Row:=[(0, 0, 4, 45, true), (1, 1, 17592186044416, 46, true), (2, 3, 35184372088832, 47, true), (4, 7, 70368744177664, 48, true), (8, 15, 140737488355328, 49, true), (16, 31, 281474976710656, 50, true), (32, 63, 562949953421312, 51, true), (0, 0, 32, 52, true), (192, 255, 3377699720527872, 53, false)]
def c49_8_s:=reg49 c49_8 .ret (fun N M G k e w =>
 M (.bool true) fun t4 =>
 k (Env.p e 4 t4) w)
def c49_7_s:=drw49 c49_7 c49_8 b49_14 12 (fun N T M G H Y k e w =>
 T (FrX (some []) w) (xv (loadAt 26 (e 2))) fun t100 =>
 T (FrX (some []) w) (xv (loadAt 52 (e 9))) fun t101 =>
 T (FrX (some []) w) (xv (loadAt 26 (e 2))) fun t102 =>
 T (FrX none w) (xnil t102) fun t103 =>
 T (FrX none w) (xv (fieldAt 92 t103 2)) fun t104 =>
 T (FrX (some []) w) (xv (loadAt 89 t104)) fun t105 =>
 T (FrX none w) (xnil t105) fun t106 =>
 T (FrX none w) (xv (fieldAt 118 t106 1)) fun t107 =>
 T (FrX (some []) w) (xv (loadAt 114 t107)) fun t108 =>
 T (FrX none w) (xv (Instr.makeFunc (Fn.func 68) ([t108]).toArray ([]).toArray)) fun t109 =>
 T (FrX none w) (xv (Instr.makeFunc (Fn.func 120) ([]).toArray ([(e 2)]).toArray)) fun t110 =>
 N (xcall (.func (.func 117) #[] #[]) [t100, t101, t109, t110]) w fun t111 w11 =>
 k e w11)
def c49_6_s:=reg49 c49_6 c49_7 (fun N M G k e w =>
 N (xv (loadAt 26 (e 2))) w fun t95 w =>
 N (xv (loadAt 52 (e 9))) w fun t96 w =>
 N (xv (Instr.makeFunc (Fn.func 118) ([]).toArray ([(e 2), (e 3)]).toArray)) w fun t97 w =>
 N (xv (Instr.makeFunc (Fn.func 119) ([]).toArray ([(e 2), (e 3)]).toArray)) w fun t98 w =>
 N (xcall (.func (.func 117) #[] #[]) [t95, t96, t97, t98]) w fun t99 w =>
 k e w)
def c49_5_s:=drw49 c49_5 c49_6 b49_12 9 (fun N T M G H Y k e w =>
 T (FrX (some []) w) (xv (loadAt 26 (e 2))) fun t86 =>
 T (FrX none w) (xnil t86) fun t87 =>
 T (FrX none w) (xv (fieldAt 92 t87 2)) fun t88 =>
 T (FrX (some []) w) (xv (loadAt 89 t88)) fun t89 =>
 T (FrX none w) (xnil t89) fun t90 =>
 T (FrX none w) (xv (fieldAt 118 t90 1)) fun t91 =>
 T (FrX (some []) w) (xv (loadAt 114 t91)) fun t92 =>
 T (FrX (some []) w) (xv (loadAt 52 (e 9))) fun t93 =>
 N (xcall (.func (.func 114) #[] #[]) [t92, t93]) w fun t94 w8 =>
 k e w8)
def c49_4_s:=drw49 c49_4 c49_5 b49_11 16 (fun N T M G H Y k e w =>
 T (FrX (some []) w) (xv (loadAt 34 (e 3))) fun t72 =>
 T (FrX (some []) w) (xv (loadAt 26 (e 2))) fun t73 =>
 T (FrX none w) (xnil t73) fun t74 =>
 T (FrX none w) (xv (fieldAt 92 t74 2)) fun t75 =>
 T (FrX (some []) w) (xv (loadAt 89 t75)) fun t76 =>
 T (FrX (some []) w) (xv (loadAt 26 (e 2))) fun t78 =>
 T (FrX none w) (xnil t78) fun t79 =>
 T (FrX none w) (xv (fieldAt 92 t79 2)) fun t80 =>
 T (FrX (some []) w) (xv (loadAt 89 t80)) fun t81 =>
 T (FrX none w) (xnil t81) fun t82 =>
 T (FrX none w) (xv (fieldAt 118 t82 5)) fun t83 =>
 T (FrX (some []) w) (xv (loadAt 2 t83)) fun t84 =>
 (N (xcall (.func (.func 116) #[] #[]) [t76]) w fun t77 w5 =>
 Y true (xv (loadAt 2 t83)) t84 w w5 ∧ (Y true (xv (loadAt 89 t80)) t81 w w5 ∧ (Y true (xv (loadAt 26 (e 2))) t78 w w5 ∧ (Y true (xv (loadAt 34 (e 3))) t72 w w5 ∧ (T (FrX none w5) (xv (Instr.build 52 ([(0, t72), (2, t77), (3, t84)]).toArray)) fun t85 =>
 N (xv (Instr.alloc 52 true (.tuple #[]))) w5 fun t9 w14 =>
 Y true (xv (loadAt 2 t83)) t84 w w14 ∧ (Y true (xv (loadAt 89 t80)) t81 w w14 ∧ (Y true (xv (loadAt 26 (e 2))) t78 w w14 ∧ (Y true (xv (loadAt 34 (e 3))) t72 w w14 ∧ (N (xu (storeAt 52 t9 t85)) w14 fun _ w15 =>
 k (Env.p e 9 t9) w15))))))))) ∧ (N (xv (Instr.alloc 52 true (.tuple #[]))) w fun t9 w14 =>
 Y true (xv (loadAt 2 t83)) t84 w w14 ∧ (Y true (xv (loadAt 89 t80)) t81 w w14 ∧ (Y true (xv (loadAt 26 (e 2))) t78 w w14 ∧ (Y true (xv (loadAt 89 t75)) t76 w w14 ∧ (Y true (xv (loadAt 26 (e 2))) t73 w w14 ∧ (Y true (xv (loadAt 34 (e 3))) t72 w w14 ∧ (N (xcall (.func (.func 116) #[] #[]) [t76]) w14 fun t77 w5 =>
 Y true (xv (loadAt 2 t83)) t84 w w5 ∧ (Y true (xv (loadAt 89 t80)) t81 w w5 ∧ (Y true (xv (loadAt 26 (e 2))) t78 w w5 ∧ (Y true (xv (loadAt 34 (e 3))) t72 w w5 ∧ (T (FrX none w5) (xv (Instr.build 52 ([(0, t72), (2, t77), (3, t84)]).toArray)) fun t85 =>
 N (xu (storeAt 52 t9 t85)) w5 fun _ w15 =>
 k (Env.p e 9 t9) w15))))))))))))
def c49_3_s:=reg49 c49_3 c49_4 (fun N M G k e w =>
 N (xv (loadAt 26 (e 2))) w fun t62 w =>
 N (xnil t62) w fun t63 w =>
 N (xv (fieldAt 92 t63 2)) w fun t64 w =>
 N (xv (loadAt 89 t64)) w fun t65 w =>
 N (xnil t65) w fun t66 w =>
 N (xv (fieldAt 118 t66 5)) w fun t67 w =>
 N (xv (loadAt 2 t67)) w fun t68 w =>
 N (xv (xbin .add 2 (.tmp 68) (.const (.int .i64 1)) t68 (.int .i64 1))) w fun t69 w =>
 N (xnil t65) w fun t70 w =>
 N (xv (fieldAt 118 t70 5)) w fun t71 w =>
 N (xu (storeAt 2 t71 t69)) w fun _ w =>
 k e w)
def c49_11_s:=reg49 c49_11 .ret (fun N M G k e w =>
 M (.bool false) fun t4 =>
 k (Env.p e 4 t4) w)
def c49_10_s:=cond49 c49_10 .skip 61 c49_11
def c49_9_s:=drw49 c49_9 c49_10 b49_8 8 (fun N T M G H Y k e w =>
 T (FrX (some []) w) (xv (loadAt 34 (e 3))) fun t54 =>
 T (FrX (some []) w) (xv (loadAt 26 (e 2))) fun t56 =>
 T (FrX none w) (xnil t56) fun t57 =>
 T (FrX none w) (xv (fieldAt 92 t57 0)) fun t58 =>
 T (FrX none w) (xv (fieldAt 25 t58 1)) fun t59 =>
 T (FrX (some []) w) (xv (loadAt 3 t59)) fun t60 =>
 N (xcall (.func (.func 115) #[] #[]) [t54]) w fun t55 w1 =>
 Y true (xv (loadAt 3 t59)) t60 w w1 ∧ (Y true (xv (loadAt 26 (e 2))) t56 w w1 ∧ (T (FrX none w1) (xv (xbin .gtr 3 (.tmp 55) (.tmp 60) t55 t60)) fun t61 =>
 k (Env.p e 61 t61) w1)))
def c49_2_s:=seq49 c49_2 c49_3 c49_9
def c49_17_s:=reg49 c49_17 .ret (fun N M G k e w =>
 M (e 8) fun t53 =>
 M t53 fun t4 =>
 k (Env.p e 4 t4) w)
def c49_21_s:=drwE49 c49_21 b49_6 9 (fun N T M G H Y k e w =>
 T (FrX (some []) w) (xv (loadAt 26 (e 2))) fun t44 =>
 T (FrX none w) (xnil t44) fun t45 =>
 T (FrX none w) (xv (fieldAt 92 t45 2)) fun t46 =>
 T (FrX (some []) w) (xv (loadAt 89 t46)) fun t47 =>
 T (FrX none w) (xnil t47) fun t48 =>
 T (FrX none w) (xv (fieldAt 118 t48 1)) fun t49 =>
 T (FrX (some []) w) (xv (loadAt 114 t49)) fun t50 =>
 T (FrX (some []) w) (xv (loadAt 52 (e 5))) fun t51 =>
 N (xcall (.func (.func 114) #[] #[]) [t50, t51]) w fun t52 w8 =>
 k e w8)
def c49_20_s:=reg49 c49_20 c49_21 (fun N M G k e w =>
 N (xv (loadAt 34 (e 7))) w fun t42 w =>
 N (xv (fieldAt 52 (e 5) 0)) w fun t43 w =>
 N (xu (storeAt 34 t43 t42)) w fun _ w =>
 k e w)
def c49_19_s:=cond49 c49_19 .skip 41 c49_20
def c49_18_s:=reg49 c49_18 c49_19 (fun N M G k e w =>
 M (e 8) fun t41 =>
 k (Env.p e 41 t41) w)
def c49_16_s:=seq49 c49_16 c49_17 c49_18
def c49_15_s:=drw49 c49_15 c49_16 b49_3 18 (fun N T M G H Y k e w =>
 T (FrX none w) (xv (fieldAt 52 (e 5) 0)) fun t27 =>
 T (FrX (some []) w) (xv (loadAt 34 t27)) fun t28 =>
 T (FrX (some []) w) (xv (loadAt 34 (e 3))) fun t29 =>
 T (FrX (some []) w) (xv (loadAt 26 (e 2))) fun t30 =>
 T (FrX none w) (xnil t30) fun t31 =>
 T (FrX none w) (xv (fieldAt 92 t31 2)) fun t32 =>
 T (FrX (some []) w) (xv (loadAt 89 t32)) fun t33 =>
 T (FrX none w) (xnil t33) fun t34 =>
 T (FrX none w) (xv (fieldAt 118 t34 2)) fun t35 =>
 T (FrX (some []) w) (xv (loadAt 115 t35)) fun t36 =>
 (N (xcall (.func (.func 70) #[] #[]) [t36]) w fun t37 w10 =>
 Y true (xv (loadAt 34 (e 3))) t29 w w10 ∧ (Y true (xv (loadAt 34 t27)) t28 w w10 ∧ ((N (xcall (.func (.func 113) #[] #[]) [t28, t29, t37]) w10 fun t38 w11 =>
 M t38 fun t26 =>
 T (FrX none w11) (xv (Instr.extract t26 0)) fun t39 =>
 T (FrX none w11) (xv (Instr.extract t26 1)) fun t40 =>
 N (xv (Instr.alloc 34 true (.tuple #[]))) w11 fun t7 w15 =>
 N (xu (storeAt 34 t7 t39)) w15 fun _ w16 =>
 M t40 fun t8 =>
 k (Env.p (Env.p e 7 t7) 8 t8) w16) ∧ (N (xv (Instr.alloc 34 true (.tuple #[]))) w10 fun t7 w15 =>
 Y true (xv (loadAt 34 (e 3))) t29 w w15 ∧ (Y true (xv (loadAt 34 t27)) t28 w w15 ∧ (N (xcall (.func (.func 113) #[] #[]) [t28, t29, t37]) w15 fun t38 w11 =>
 M t38 fun t26 =>
 T (FrX none w11) (xv (Instr.extract t26 0)) fun t39 =>
 T (FrX none w11) (xv (Instr.extract t26 1)) fun t40 =>
 N (xu (storeAt 34 t7 t39)) w11 fun _ w16 =>
 M t40 fun t8 =>
 k (Env.p (Env.p e 7 t7) 8 t8) w16)))))) ∧ (N (xv (Instr.alloc 34 true (.tuple #[]))) w fun t7 w15 =>
 Y true (xv (loadAt 115 t35)) t36 w w15 ∧ (Y true (xv (loadAt 89 t32)) t33 w w15 ∧ (Y true (xv (loadAt 26 (e 2))) t30 w w15 ∧ (Y true (xv (loadAt 34 (e 3))) t29 w w15 ∧ (Y true (xv (loadAt 34 t27)) t28 w w15 ∧ (N (xcall (.func (.func 70) #[] #[]) [t36]) w15 fun t37 w10 =>
 Y true (xv (loadAt 34 (e 3))) t29 w w10 ∧ (Y true (xv (loadAt 34 t27)) t28 w w10 ∧ (N (xcall (.func (.func 113) #[] #[]) [t28, t29, t37]) w10 fun t38 w11 =>
 M t38 fun t26 =>
 T (FrX none w11) (xv (Instr.extract t26 0)) fun t39 =>
 T (FrX none w11) (xv (Instr.extract t26 1)) fun t40 =>
 N (xu (storeAt 34 t7 t39)) w11 fun _ w16 =>
 M t40 fun t8 =>
 k (Env.p (Env.p e 7 t7) 8 t8) w16)))))))))
def c49_14_s:=cond49 c49_14 .skip 25 c49_15
def c49_13_s:=reg49 c49_13 c49_14 (fun N M G k e w =>
 M (e 6) fun t25 =>
 k (Env.p e 25 t25) w)
def c49_12_s:=drw49 c49_12 c49_13 b49_1 18 (fun N T M G H Y k e w =>
 T (FrX (some []) w) (xv (loadAt 26 (e 2))) fun t11 =>
 T (FrX none w) (xnil t11) fun t12 =>
 T (FrX none w) (xv (fieldAt 92 t12 2)) fun t13 =>
 T (FrX (some []) w) (xv (loadAt 89 t13)) fun t14 =>
 T (FrX none w) (xnil t14) fun t15 =>
 T (FrX none w) (xv (fieldAt 118 t15 1)) fun t16 =>
 T (FrX (some []) w) (xv (loadAt 114 t16)) fun t17 =>
 T (FrX none w) (xv (fieldAt 34 (e 3) 0)) fun t18 =>
 T (FrX (some []) w) (xv (loadAt 9 t18)) fun t19 =>
 T (FrX none w) (xv (fieldAt 34 (e 3) 2)) fun t20 =>
 T (FrX (some []) w) (xv (loadAt 2 t20)) fun t21 =>
 (N (xcall (.func (.func 112) #[] #[]) [t17, t19, t21]) w fun t22 w11 =>
 M t22 fun t10 =>
 T (FrX none w11) (xv (Instr.extract t10 0)) fun t23 =>
 T (FrX none w11) (xv (Instr.extract t10 1)) fun t24 =>
 N (xv (Instr.alloc 52 true (.tuple #[]))) w11 fun t5 w15 =>
 N (xu (storeAt 52 t5 t23)) w15 fun _ w16 =>
 M t24 fun t6 =>
 k (Env.p (Env.p e 5 t5) 6 t6) w16) ∧ (N (xv (Instr.alloc 52 true (.tuple #[]))) w fun t5 w15 =>
 Y true (xv (loadAt 2 t20)) t21 w w15 ∧ (Y true (xv (loadAt 9 t18)) t19 w w15 ∧ (Y true (xv (loadAt 114 t16)) t17 w w15 ∧ (Y true (xv (loadAt 89 t13)) t14 w w15 ∧ (Y true (xv (loadAt 26 (e 2))) t11 w w15 ∧ (N (xcall (.func (.func 112) #[] #[]) [t17, t19, t21]) w15 fun t22 w11 =>
 M t22 fun t10 =>
 T (FrX none w11) (xv (Instr.extract t10 0)) fun t23 =>
 T (FrX none w11) (xv (Instr.extract t10 1)) fun t24 =>
 N (xu (storeAt 52 t5 t23)) w11 fun _ w16 =>
 M t24 fun t6 =>
 k (Env.p (Env.p e 5 t5) 6 t6) w16)))))))
def c49_1_s:=seq49 c49_1 c49_2 c49_12
def c49_s:=reg49 c49 c49_1 (fun N M G k e w =>
 N (xv (Instr.box 26 (e 0))) w fun t2 w =>
 N (xv (Instr.box 34 (e 1))) w fun t3 w =>
 M (.bool false) fun t4 =>
 k (Env.p (Env.p (Env.p e 2 t2) 3 t3) 4 t4) w)
theorem call49 {a0 a1 : Value} {w : World} {R : Value → World → Prop} (h : W3 Tryz.prog 112 V49 c49 (retQ Tryz.prog [.tmp 4] R) (argE [a0, a1]) w) : CallsN Tryz.prog 49 [a0, a1] w R :=
 callsN_of_W3 (c := c49) (rs := [.tmp 4]) V49 Tryz.ntmps49 (by rw [Tryz.results49]) mixed Tryz.func49 (by kernel_rfl) (by kernel_rfl) (by kernel_rfl) (by kernel_rfl) (by simp) h
def w3t_49:=w3t Tryz.prog 112 V49
def hk49 := aI @c49_8_s <| aI @c49_7_s <| aI @c49_6_s <| aI @c49_5_s <| aI @c49_4_s <| aI @c49_3_s <| aI @c49_11_s <| aI @c49_10_s <| aI @c49_9_s <| aI @c49_2_s <| aI @c49_17_s <| aI @c49_21_s <| aI @c49_20_s <| aI @c49_19_s <| aI @c49_18_s <| aI @c49_16_s <| aI @c49_15_s <| aI @c49_14_s <| aI @c49_13_s <| aI @c49_12_s <| aI @c49_1_s <| aI @c49_s <| @w3t_49
-- K49: ↓hk49
/-! ### (*vouch/node.Node) . lay$1 -/
def V118 : Nat → Bool := fun i => [0, 1, 2].elem i
def drw118:=@s_drw Tryz.prog 13 V118
def reg118:=@s_reg Tryz.prog 13 V118
noncomputable def c118:Code:=(Tryz.f118.body.getD .skip)
noncomputable def c118_1:=cR c118
noncomputable def b118_1:List Row:=[(0, 0, 1, 4, true), (1, 1, 8, 5, true), (2, 3, 16, 6, true), (4, 7, 32, 7, true), (8, 15, 64, 8, true), (16, 31, 128, 9, true), (32, 63, 256, 10, true), (0, 0, 2, 11, true), (128, 128, 1024, 12, true), (320, 511, 2560, 13, false), (1023, 1023, 4096, 3, true)]
def c118_1_s:=drw118 c118_1 .ret b118_1 11 (fun N T M G H Y k e w =>
 T (FrX (some []) w) (xv (loadAt 26 (e 0))) fun t3 =>
 T (FrX none w) (xnil t3) fun t4 =>
 T (FrX none w) (xv (fieldAt 92 t4 2)) fun t5 =>
 T (FrX (some []) w) (xv (loadAt 89 t5)) fun t6 =>
 T (FrX none w) (xnil t6) fun t7 =>
 T (FrX none w) (xv (fieldAt 118 t7 1)) fun t8 =>
 T (FrX (some []) w) (xv (loadAt 114 t8)) fun t9 =>
 T (FrX none w) (xv (fieldAt 34 (e 1) 0)) fun t10 =>
 T (FrX (some []) w) (xv (loadAt 9 t10)) fun t11 =>
 N (xcall (.func (.func 65) #[] #[]) [t9, t11]) w fun t12 w9 =>
 M t12 fun t2 =>
 k (Env.p e 2 t2) w9)
def c118_s:=reg118 c118 c118_1 (fun N M G k e w =>
 M (.slice none 0 0) fun t2 =>
 k (Env.p e 2 t2) w)
theorem call118 {a0 a1 : Value} {w : World} {R : Value → World → Prop} (h : W3 Tryz.prog 13 V118 c118 (retQ Tryz.prog [.tmp 2] R) (argE [a0, a1]) w) : CallsN Tryz.prog 118 [a0, a1] w R :=
 callsN_of_W3 (c := c118) (rs := [.tmp 2]) V118 Tryz.ntmps118 (by rw [Tryz.results118]) mixed Tryz.func118 (by kernel_rfl) (by kernel_rfl) (by kernel_rfl) (by kernel_rfl) (by simp) h
def w3t_118:=w3t Tryz.prog 13 V118
def hk118 := aI @c118_1_s <| aI @c118_s <| @w3t_118
-- K118: ↓hk118
/-! ### (*vouch/node.Node) . lay$2 -/
def V119 : Nat → Bool := fun i => [0, 1, 2].elem i
def drw119:=@s_drw Tryz.prog 20 V119
def reg119:=@s_reg Tryz.prog 20 V119
noncomputable def c119:Code:=(Tryz.f119.body.getD .skip)
noncomputable def c119_1:=cR c119
noncomputable def b119_1:List Row:=[(0, 0, 1, 4, true), (1, 1, 8, 5, true), (2, 3, 16, 6, true), (4, 7, 32, 7, true), (8, 15, 64, 8, true), (16, 31, 128, 9, true), (32, 63, 256, 10, true), (0, 0, 2, 11, true), (128, 128, 1024, 12, true), (320, 511, 2560, 13, false), (512, 1023, 4096, 14, true), (0, 0, 1, 15, true), (2048, 2048, 16384, 16, true), (4096, 6144, 32768, 17, true), (8192, 14336, 65536, 18, true), (16384, 30720, 131072, 19, true), (33792, 65535, 270336, 20, true), (131071, 131071, 524288, 3, true)]
def c119_1_s:=drw119 c119_1 .ret b119_1 18 (fun N T M G H Y k e w =>
 T (FrX (some []) w) (xv (loadAt 26 (e 0))) fun t3 =>
 T (FrX none w) (xnil t3) fun t4 =>
 T (FrX none w) (xv (fieldAt 92 t4 2)) fun t5 =>
 T (FrX (some []) w) (xv (loadAt 89 t5)) fun t6 =>
 T (FrX none w) (xnil t6) fun t7 =>
 T (FrX none w) (xv (fieldAt 118 t7 1)) fun t8 =>
 T (FrX (some []) w) (xv (loadAt 114 t8)) fun t9 =>
 T (FrX none w) (xv (fieldAt 34 (e 1) 0)) fun t10 =>
 T (FrX (some []) w) (xv (loadAt 9 t10)) fun t11 =>
 T (FrX (some []) w) (xv (loadAt 26 (e 0))) fun t14 =>
 T (FrX none w) (xnil t14) fun t15 =>
 T (FrX none w) (xv (fieldAt 92 t15 0)) fun t16 =>
 T (FrX none w) (xv (fieldAt 25 t16 2)) fun t17 =>
 T (FrX (some []) w) (xv (loadAt 3 t17)) fun t18 =>
 N (xcall (.func (.func 65) #[] #[]) [t9, t11]) w fun t12 w9 =>
 Y true (xv (loadAt 3 t17)) t18 w w9 ∧ (Y true (xv (loadAt 26 (e 0))) t14 w w9 ∧ (T (FrX (some []) w9) (builtin Builtin.len #[41] 3 ([false]).toArray ([t12]).toArray) fun t13 =>
 T (FrX none w9) (xv (xbin .gtr 3 (.tmp 13) (.tmp 18) t13 t18)) fun t19 =>
 M t19 fun t2 =>
 k (Env.p e 2 t2) w9)))
def c119_s:=reg119 c119 c119_1 (fun N M G k e w =>
 M (.bool false) fun t2 =>
 k (Env.p e 2 t2) w)
theorem call119 {a0 a1 : Value} {w : World} {R : Value → World → Prop} (h : W3 Tryz.prog 20 V119 c119 (retQ Tryz.prog [.tmp 2] R) (argE [a0, a1]) w) : CallsN Tryz.prog 119 [a0, a1] w R :=
 callsN_of_W3 (c := c119) (rs := [.tmp 2]) V119 Tryz.ntmps119 (by rw [Tryz.results119]) mixed Tryz.func119 (by kernel_rfl) (by kernel_rfl) (by kernel_rfl) (by kernel_rfl) (by simp) h
def w3t_119:=w3t Tryz.prog 20 V119
def hk119 := aI @c119_1_s <| aI @c119_s <| @w3t_119
-- K119: ↓hk119
/-! ### (*vouch/node.Node) . lay$3 -/
def V120 : Nat → Bool := fun i => [0, 1].elem i
def drw120:=@s_drw Tryz.prog 16 V120
def reg120:=@s_reg Tryz.prog 16 V120
noncomputable def c120:Code:=(Tryz.f120.body.getD .skip)
noncomputable def c120_1:=cR c120
noncomputable def b120_1:List Row:=[(0, 0, 1, 3, true), (1, 1, 4, 4, true), (2, 3, 8, 5, true), (4, 7, 16, 6, true), (8, 15, 32, 7, true), (16, 31, 64, 8, true), (32, 63, 128, 9, true), (64, 127, 256, 10, false), (0, 0, 1, 11, true), (256, 256, 1024, 12, true), (512, 768, 2048, 13, true), (1024, 1792, 4096, 14, true), (2048, 3840, 8192, 15, true), (4224, 8191, 16896, 16, true), (16383, 16383, 32768, 2, true)]
def c120_1_s:=drw120 c120_1 .ret b120_1 15 (fun N T M G H Y k e w =>
 T (FrX (some []) w) (xv (loadAt 26 (e 0))) fun t2 =>
 T (FrX none w) (xnil t2) fun t3 =>
 T (FrX none w) (xv (fieldAt 92 t3 2)) fun t4 =>
 T (FrX (some []) w) (xv (loadAt 89 t4)) fun t5 =>
 T (FrX none w) (xnil t5) fun t6 =>
 T (FrX none w) (xv (fieldAt 118 t6 1)) fun t7 =>
 T (FrX (some []) w) (xv (loadAt 114 t7)) fun t8 =>
 T (FrX (some []) w) (xv (loadAt 26 (e 0))) fun t10 =>
 T (FrX none w) (xnil t10) fun t11 =>
 T (FrX none w) (xv (fieldAt 92 t11 0)) fun t12 =>
 T (FrX none w) (xv (fieldAt 25 t12 1)) fun t13 =>
 T (FrX (some []) w) (xv (loadAt 3 t13)) fun t14 =>
 N (xcall (.func (.func 78) #[] #[]) [t8]) w fun t9 w7 =>
 Y true (xv (loadAt 3 t13)) t14 w w7 ∧ (Y true (xv (loadAt 26 (e 0))) t10 w w7 ∧ (T (FrX none w7) (xv (xbin .gtr 3 (.tmp 9) (.tmp 14) t9 t14)) fun t15 =>
 M t15 fun t1 =>
 k (Env.p e 1 t1) w7)))
def c120_s:=reg120 c120 c120_1 (fun N M G k e w =>
 M (.bool false) fun t1 =>
 k (Env.p e 1 t1) w)
theorem call120 {a0 : Value} {w : World} {R : Value → World → Prop} (h : W3 Tryz.prog 16 V120 c120 (retQ Tryz.prog [.tmp 1] R) (argE [a0]) w) : CallsN Tryz.prog 120 [a0] w R :=
 callsN_of_W3 (c := c120) (rs := [.tmp 1]) V120 Tryz.ntmps120 (by rw [Tryz.results120]) mixed Tryz.func120 (by kernel_rfl) (by kernel_rfl) (by kernel_rfl) (by kernel_rfl) (by simp) h
def w3t_120:=w3t Tryz.prog 16 V120
def hk120 := aI @c120_1_s <| aI @c120_s <| @w3t_120
-- K120: ↓hk120
/-! ### (*vouch/node.Node) . settle -/
def V50 : Nat → Bool := fun i => [0, 1, 2, 4, 6, 7, 8, 9, 33, 54, 70].elem i
def cond50:=@s_cond Tryz.prog 80 V50
def drw50:=@s_drw Tryz.prog 80 V50
def reg50:=@s_reg Tryz.prog 80 V50
def rend50:=@s_rend Tryz.prog 80 V50
def seq50:=@s_seq Tryz.prog 80 V50
noncomputable def c50:Code:=(Tryz.f50.body.getD .skip)
noncomputable def c50_1:=cR c50
noncomputable def c50_2:=cR c50_1
noncomputable def c50_3:=cR c50_2
noncomputable def c50_4:=cR c50_3
noncomputable def c50_5:=cR c50_4
noncomputable def c50_6:=cL c50_3
noncomputable def c50_7:=cR c50_6
noncomputable def c50_8:=cL c50_7
noncomputable def b50_5:List Row:=[(0, 0, 1, 57, true), (1, 1, 72057594037927936, 58, true), (2, 3, 144115188075855872, 59, true), (4, 7, 288230376151711744, 60, true), (8, 15, 576460752303423488, 61, true), (16, 31, 1152921504606846976, 62, true), (32, 63, 2305843009213693952, 63, true), (0, 0, 16, 64, true), (128, 128, 9223372036854775808, 65, true), (0, 0, 4, 66, true), (832, 1023, 59951918239556042752, 67, false), (1024, 2047, 73786976294838206464, 56, true), (2048, 4095, 36028797018963968, 68, true), (2048, 4095, 36028797018963968, 69, true), (8191, 8191, 147573952589676412928, 9, true), (32767, 32767, 295147905179352825856, 10, true)]
noncomputable def c50_9:=cR c50_8
noncomputable def c50_10:=cR c50_9
noncomputable def c50_11:=cL c50_9
noncomputable def c50_12:=cR c50_11
noncomputable def c50_13:=cL c50_12
noncomputable def c50_14:=cL c50_1
noncomputable def c50_15:=cR c50_14
noncomputable def c50_16:=cL c50_15
def c50_5_s:=reg50 c50_5 .ret (fun N M G k e w =>
 N (xv (loadAt 34 (e 4))) w fun t79 w =>
 N (xu (storeAt 34 (e 6) t79)) w fun _ w =>
 k e w)
def c50_4_s:=reg50 c50_4 c50_5 (fun N M G k e w =>
 N (xv (loadAt 34 (e 4))) w fun t74 w =>
 M (e 7) fun t75 =>
 N (xcall (.func (.func 123) #[] #[]) [t74, t75]) w fun t76 w =>
 M t76 fun t73 =>
 N (xv (Instr.extract t73 0)) w fun t77 w =>
 N (xv (Instr.extract t73 1)) w fun t78 w =>
 N (xu (storeAt 34 (e 4) t77)) w fun _ w =>
 k e w)
def c50_10_s:=rend50 c50_10 (fun N M G k e w =>
 M (e 8) fun t72 =>
 M t72 fun t7 =>
 k (Env.p e 7 t7) w)
def c50_13_s:=reg50 c50_13 .ret (fun N M G k e w =>
 N (xv (loadAt 34 (e 4))) w fun t71 w =>
 N (xu (storeAt 34 (e 6) t71)) w fun _ w =>
 k e w)
def c50_12_s:=cond50 c50_12 .skip 70 c50_13
def c50_11_s:=reg50 c50_11 c50_12 (fun N M G k e w =>
 M (e 9) fun t69 =>
 N (xv (Op.unary .not t69)) w fun t70 w =>
 k (Env.p e 70 t70) w)
def c50_9_s:=seq50 c50_9 c50_10 c50_11
def c50_8_s:=drw50 c50_8 c50_9 b50_5 16 (fun N T M G H Y k e w =>
 M (e 0) fun t56 =>
 T (FrX none w) (xnil t56) fun t57 =>
 T (FrX none w) (xv (fieldAt 92 t57 2)) fun t58 =>
 T (FrX (some []) w) (xv (loadAt 89 t58)) fun t59 =>
 T (FrX none w) (xnil t59) fun t60 =>
 T (FrX none w) (xv (fieldAt 118 t60 3)) fun t61 =>
 T (FrX (some []) w) (xv (loadAt 116 t61)) fun t62 =>
 T (FrX none w) (xv (fieldAt 34 (e 4) 0)) fun t63 =>
 T (FrX (some []) w) (xv (loadAt 9 t63)) fun t64 =>
 M (e 2) fun t65 =>
 N (xcall (.func (.func 122) #[] #[]) [t62, t64, t65]) w fun t66 w10 =>
 M t66 fun t55 =>
 T (FrX none w10) (xv (Instr.extract t55 0)) fun t67 =>
 T (FrX none w10) (xv (Instr.extract t55 1)) fun t68 =>
 M t67 fun t8 =>
 M t68 fun t9 =>
 k (Env.p (Env.p e 8 t8) 9 t9) w10)
def c50_7_s:=cond50 c50_7 .skip 54 c50_8
def c50_6_s:=reg50 c50_6 c50_7 (fun N M G k e w =>
 M (e 0) fun t37 =>
 N (xnil t37) w fun t38 w =>
 N (xv (fieldAt 92 t38 2)) w fun t39 w =>
 N (xv (loadAt 89 t39)) w fun t40 w =>
 N (xnil t40) w fun t41 w =>
 N (xv (fieldAt 118 t41 0)) w fun t42 w =>
 N (xv (loadAt 4 t42)) w fun t43 w =>
 M t43 fun t44 =>
 G (isB t44 true) (fun K => M (e 0) fun v => K v w) (fun t45 w =>
 G (isB t44 true) (fun K => N (xnil t45) w K) (fun t46 w =>
 G (isB t44 true) (fun K => N (xv (fieldAt 92 t46 2)) w K) (fun t47 w =>
 G (isB t44 true) (fun K => N (xv (loadAt 89 t47)) w K) (fun t48 w =>
 G (isB t44 true) (fun K => N (xnil t48) w K) (fun t49 w =>
 G (isB t44 true) (fun K => N (xv (fieldAt 118 t49 3)) w K) (fun t50 w =>
 G (isB t44 true) (fun K => N (xv (loadAt 116 t50)) w K) (fun t51 w =>
 G (isB t44 true) (fun K => M (e 2) fun v => K v w) (fun t52 w =>
 G (isB t44 true) (fun K => N (xcall (.func (.func 121) #[] #[]) [t51, t52]) w K) (fun t53 w =>
 N (xpick t44 t53 (.bool false)) w fun t54 w =>
 k (Env.p e 54 t54) w) w) w) w) w) w) w) w) w) w)
def c50_3_s:=seq50 c50_3 c50_4 c50_6
def c50_2_s:=reg50 c50_2 c50_3 (fun N M G k e w =>
 M (e 2) fun t35 =>
 N (xv (xbin .add 2 (.tmp 35) (.const (.int .i64 1)) t35 (.int .i64 1))) w fun t36 w =>
 M t36 fun t7 =>
 k (Env.p e 7 t7) w)
def c50_16_s:=reg50 c50_16 .ret (fun N M G k e w =>
 N (xv (loadAt 34 (e 4))) w fun t34 w =>
 N (xu (storeAt 34 (e 6) t34)) w fun _ w =>
 k e w)
def c50_15_s:=cond50 c50_15 .skip 33 c50_16
def c50_14_s:=reg50 c50_14 c50_15 (fun N M G k e w =>
 N (xv (fieldAt 34 (e 4) 3)) w fun t10 w =>
 N (xv (loadAt 2 t10)) w fun t11 w =>
 N (xv (xbin .neq 2 (.tmp 11) (.const (.int .i64 4611686018427387904)) t11 (.int .i64 4611686018427387904))) w fun t12 w =>
 M t12 fun t13 =>
 G (isB t13 false) (fun K => M (e 0) fun v => K v w) (fun t14 w =>
 G (isB t13 false) (fun K => N (xnil t14) w K) (fun t15 w =>
 G (isB t13 false) (fun K => N (xv (fieldAt 92 t15 2)) w K) (fun t16 w =>
 G (isB t13 false) (fun K => N (xv (loadAt 89 t16)) w K) (fun t17 w =>
 G (isB t13 false) (fun K => N (xnil t17) w K) (fun t18 w =>
 G (isB t13 false) (fun K => N (xv (fieldAt 118 t18 0)) w K) (fun t19 w =>
 G (isB t13 false) (fun K => N (xv (loadAt 4 t19)) w K) (fun t20 w =>
 G (isB t13 false) (fun K => M t20 fun v => K v w) (fun t21 w =>
 G (isB t21 true) (fun K => M (e 2) fun v => K v w) (fun t22 w =>
 G (isB t21 true) (fun K => M (e 0) fun v => K v w) (fun t23 w =>
 G (isB t21 true) (fun K => N (xnil t23) w K) (fun t24 w =>
 G (isB t21 true) (fun K => N (xv (fieldAt 92 t24 2)) w K) (fun t25 w =>
 G (isB t21 true) (fun K => N (xv (loadAt 89 t25)) w K) (fun t26 w =>
 G (isB t21 true) (fun K => N (xnil t26) w K) (fun t27 w =>
 G (isB t21 true) (fun K => N (xv (fieldAt 118 t27 2)) w K) (fun t28 w =>
 G (isB t21 true) (fun K => N (xv (loadAt 115 t28)) w K) (fun t29 w =>
 G (isB t21 true) (fun K => N (xcall (.func (.func 70) #[] #[]) [t29]) w K) (fun t30 w =>
 G (isB t21 true) (fun K => N (xv (xbin .geq 2 (.tmp 22) (.tmp 30) t22 t30)) w K) (fun t31 w =>
 G (isB t13 false) (fun K => N (xpick t21 t31 (.bool false)) w K) (fun t32 w =>
 N (xpick t13 (.bool true) t32) w fun t33 w =>
 k (Env.p e 33 t33) w) w) w) w) w) w) w) w) w) w) w) w) w) w) w) w) w) w) w) w)
def c50_1_s:=seq50 c50_1 c50_2 c50_14
def c50_s:=reg50 c50 c50_1 (fun N M G k e w =>
 N (xv (Instr.box 34 (e 1))) w fun t4 w =>
 N (xv (Instr.alloc 34 true (.tuple #[]))) w fun t6 w =>
 k (Env.p (Env.p e 4 t4) 6 t6) w)
theorem call50 {a0 a1 a2 : Value} {w : World} {R : Value → World → Prop} (h : W3 Tryz.prog 80 V50 c50 (retQ Tryz.prog [.cell 6 34] R) (argE [a0, a1, a2]) w) : CallsN Tryz.prog 50 [a0, a1, a2] w R :=
 callsN_of_W3 (c := c50) (rs := [.cell 6 34]) V50 Tryz.ntmps50 (by rw [Tryz.results50]) mixed Tryz.func50 (by kernel_rfl) (by kernel_rfl) (by kernel_rfl) (by kernel_rfl) (by simp) h
def w3t_50:=w3t Tryz.prog 80 V50
def hk50 := aI @c50_5_s <| aI @c50_4_s <| aI @c50_10_s <| aI @c50_13_s <| aI @c50_12_s <| aI @c50_11_s <| aI @c50_9_s <| aI @c50_8_s <| aI @c50_7_s <| aI @c50_6_s <| aI @c50_3_s <| aI @c50_2_s <| aI @c50_16_s <| aI @c50_15_s <| aI @c50_14_s <| aI @c50_1_s <| aI @c50_s <| @w3t_50
-- K50: ↓hk50
/-! ### (*vouch/node.Node) . closeAll -/
def V64 : Nat → Bool := fun i => [0, 1, 2, 7, 8, 9, 10, 11, 12, 13, 14, 15, 31, 40].elem i
def block64:=@s_block Tryz.prog 67 V64
def cond64:=@s_cond Tryz.prog 67 V64
def drw64:=@s_drw Tryz.prog 67 V64
def drwE64:=@s_drwE Tryz.prog 67 V64
def loop64:=@s_loop Tryz.prog 67 V64
def reg64:=@s_reg Tryz.prog 67 V64
def rend64:=@s_rend Tryz.prog 67 V64
def seq64:=@s_seq Tryz.prog 67 V64
noncomputable def c64:Code:=(Tryz.f64.body.getD .skip)
noncomputable def c64_1:=cR c64
noncomputable def c64_2:=cL c64_1
noncomputable def c64_3:=cL c64_2
noncomputable def c64_4:=cR c64_3
noncomputable def c64_5:=cR c64_4
noncomputable def c64_6:=cR c64_5
noncomputable def c64_7:=cL c64_5
noncomputable def c64_8:=cL c64_7
noncomputable def c64_9:=cR c64_8
noncomputable def c64_10:=cR c64_9
noncomputable def c64_11:=cR c64_10
noncomputable def c64_12:=cR c64_11
noncomputable def c64_13:=cR c64_12
noncomputable def c64_14:=cR c64_13
noncomputable def b64_9:List Row:=[(0, 0, 1, 58, true), (1, 1, 144115188075855872, 59, true), (2, 3, 288230376151711744, 60, true), (4, 7, 576460752303423488, 61, true), (8, 15, 1152921504606846976, 62, true), (16, 31, 2305843009213693952, 63, true), (32, 63, 4611686018427387904, 64, true), (0, 0, 128, 65, true), (192, 255, 27670116110564327424, 66, false)]
noncomputable def c64_15:=cL c64_12
noncomputable def c64_16:=cR c64_15
noncomputable def c64_17:=cL c64_16
noncomputable def b64_7:List Row:=[(0, 0, 1, 42, true), (1, 1, 2199023255552, 43, true), (2, 3, 4398046511104, 44, true), (4, 7, 8796093022208, 45, true), (8, 15, 17592186044416, 46, true), (16, 31, 35184372088832, 47, true), (32, 63, 70368744177664, 48, true), (0, 0, 128, 49, true), (128, 128, 281474976710656, 50, true), (256, 384, 562949953421312, 51, true), (0, 0, 128, 52, true), (1024, 1024, 2251799813685248, 53, true), (2048, 3072, 4503599627370496, 54, true), (4672, 8191, 10273836649938944, 55, false)]
noncomputable def c64_18:=cL c64_10
noncomputable def c64_19:=cR c64_18
noncomputable def c64_20:=cL c64_4
def c64_6_s:=rend64 c64_6 (fun N M G k e w =>
 N (xv (xbin .add 3 (.tmp 14) (.const (.int .i64 1)) (e 14) (.int .i64 1))) w fun t66 w =>
 M t66 fun t14 =>
 k (Env.p e 14 t14) w)
def c64_14_s:=drwE64 c64_14 b64_9 9 (fun N T M G H Y k e w =>
 M (e 0) fun t57 =>
 T (FrX none w) (xnil t57) fun t58 =>
 T (FrX none w) (xv (fieldAt 92 t58 2)) fun t59 =>
 T (FrX (some []) w) (xv (loadAt 89 t59)) fun t60 =>
 T (FrX none w) (xnil t60) fun t61 =>
 T (FrX none w) (xv (fieldAt 118 t61 1)) fun t62 =>
 T (FrX (some []) w) (xv (loadAt 114 t62)) fun t63 =>
 T (FrX (some []) w) (xv (loadAt 52 (e 7))) fun t64 =>
 N (xcall (.func (.func 114) #[] #[]) [t63, t64]) w fun t65 w8 =>
 k e w8)
def c64_13_s:=reg64 c64_13 c64_14 (fun N M G k e w =>
 N (xv (loadAt 34 (e 10))) w fun t55 w =>
 N (xv (fieldAt 52 (e 7) 0)) w fun t56 w =>
 N (xu (storeAt 34 t56 t55)) w fun _ w =>
 k e w)
def c64_17_s:=drw64 c64_17 (.exit 1) b64_7 14 (fun N T M G H Y k e w =>
 M (e 0) fun t41 =>
 T (FrX none w) (xnil t41) fun t42 =>
 T (FrX none w) (xv (fieldAt 92 t42 2)) fun t43 =>
 T (FrX (some []) w) (xv (loadAt 89 t43)) fun t44 =>
 T (FrX none w) (xnil t44) fun t45 =>
 T (FrX none w) (xv (fieldAt 118 t45 1)) fun t46 =>
 T (FrX (some []) w) (xv (loadAt 114 t46)) fun t47 =>
 T (FrX none w) (xv (fieldAt 52 (e 7) 0)) fun t48 =>
 T (FrX none w) (xv (fieldAt 34 t48 0)) fun t49 =>
 T (FrX (some []) w) (xv (loadAt 9 t49)) fun t50 =>
 T (FrX none w) (xv (fieldAt 52 (e 7) 0)) fun t51 =>
 T (FrX none w) (xv (fieldAt 34 t51 2)) fun t52 =>
 T (FrX (some []) w) (xv (loadAt 2 t52)) fun t53 =>
 N (xcall (.func (.func 89) #[] #[]) [t47, t50, t53]) w fun t54 w13 =>
 k e w13)
def c64_16_s:=cond64 c64_16 .skip 40 c64_17
def c64_15_s:=reg64 c64_15 c64_16 (fun N M G k e w =>
 M (e 11) fun t39 =>
 N (xv (Op.unary .not t39)) w fun t40 w =>
 k (Env.p e 40 t40) w)
def c64_12_s:=seq64 c64_12 c64_13 c64_15
def c64_11_s:=reg64 c64_11 c64_12 (fun N M G k e w =>
 N (xv (fieldAt 52 (e 7) 0)) w fun t33 w =>
 N (xv (loadAt 34 t33)) w fun t34 w =>
 M (e 8) fun t35 =>
 N (xcall (.func (.func 123) #[] #[]) [t34, t35]) w fun t36 w =>
 M t36 fun t32 =>
 N (xv (Instr.extract t32 0)) w fun t37 w =>
 N (xv (Instr.extract t32 1)) w fun t38 w =>
 N (xv (Instr.alloc 34 true (.tuple #[]))) w fun t10 w =>
 N (xu (storeAt 34 t10 t37)) w fun _ w =>
 M t38 fun t11 =>
 k (Env.p (Env.p e 10 t10) 11 t11) w)
def c64_19_s:=cond64 c64_19 .skip 31 (.exit 1)
def c64_18_s:=reg64 c64_18 c64_19 (fun N M G k e w =>
 N (xv (fieldAt 52 (e 7) 0)) w fun t24 w =>
 N (xv (fieldAt 34 t24 3)) w fun t25 w =>
 N (xv (loadAt 2 t25)) w fun t26 w =>
 N (xv (xbin .neq 2 (.tmp 26) (.const (.int .i64 4611686018427387904)) t26 (.int .i64 4611686018427387904))) w fun t27 w =>
 M t27 fun t28 =>
 G (isB t28 false) (fun K => M (e 9) fun v => K v w) (fun t29 w =>
 G (isB t28 false) (fun K => N (xv (Op.unary .not t29)) w K) (fun t30 w =>
 N (xpick t28 (.bool true) t30) w fun t31 w =>
 k (Env.p e 31 t31) w) w) w)
def c64_10_s:=seq64 c64_10 c64_11 c64_18
def c64_9_s:=reg64 c64_9 c64_10 (fun N M G k e w =>
 M (e 2) fun t19 =>
 N (xv (loadAt 52 (e 7))) w fun t20 w =>
 N (xcall t19 [t20]) w fun t21 w =>
 M t21 fun t18 =>
 N (xv (Instr.extract t18 0)) w fun t22 w =>
 N (xv (Instr.extract t18 1)) w fun t23 w =>
 M t22 fun t8 =>
 M t23 fun t9 =>
 k (Env.p (Env.p e 8 t8) 9 t9) w)
def c64_8_s:=reg64 c64_8 c64_9 (fun N M G k e w =>
 N (xv (indexAt 41 (e 12) (e 14))) w fun t16 w =>
 N (xv (loadAt 52 t16)) w fun t17 w =>
 N (xv (Instr.alloc 52 true (.tuple #[]))) w fun t7 w =>
 N (xu (storeAt 52 t7 t17)) w fun _ w =>
 k (Env.p e 7 t7) w)
def c64_7_s:=block64 c64_7 c64_8 1
def c64_5_s:=seq64 c64_5 c64_6 c64_7
def c64_20_s:=cond64 c64_20 (.exit 0) 15 .skip
def c64_4_s:=seq64 c64_4 c64_5 c64_20
def c64_3_s:=reg64 c64_3 c64_4 (fun N M G k e w =>
 N (xv (xbin .lss 3 (.tmp 14) (.tmp 13) (e 14) (e 13))) w fun t15 w =>
 k (Env.p e 15 t15) w)
def c64_2_s:=loop64 c64_2 c64_3
def c64_1_s:=block64 c64_1 c64_2 0
def c64_s:=reg64 c64 c64_1 (fun N M G k e w =>
 M (e 1) fun t12 =>
 N (builtin Builtin.len #[41] 3 ([false]).toArray ([t12]).toArray) w fun t13 w =>
 M (.int .i64 0) fun t14 =>
 k (Env.p (Env.p (Env.p e 12 t12) 13 t13) 14 t14) w)
theorem call64 {a0 a1 a2 : Value} {w : World} {R : Value → World → Prop} (h : W3 Tryz.prog 67 V64 c64 (retQ Tryz.prog [] R) (argE [a0, a1, a2]) w) : CallsN Tryz.prog 64 [a0, a1, a2] w R :=
 callsN_of_W3 (c := c64) (rs := []) V64 Tryz.ntmps64 (by rw [Tryz.results64]) mixed Tryz.func64 (by kernel_rfl) (by kernel_rfl) (by kernel_rfl) (by kernel_rfl) (by simp) h
def w3t_64:=w3t Tryz.prog 67 V64
def hk64 := aI @c64_6_s <| aI @c64_14_s <| aI @c64_13_s <| aI @c64_17_s <| aI @c64_16_s <| aI @c64_15_s <| aI @c64_12_s <| aI @c64_11_s <| aI @c64_19_s <| aI @c64_18_s <| aI @c64_10_s <| aI @c64_9_s <| aI @c64_8_s <| aI @c64_7_s <| aI @c64_5_s <| aI @c64_20_s <| aI @c64_4_s <| aI @c64_3_s <| aI @c64_2_s <| aI @c64_1_s <| aI @c64_s <| @w3t_64
-- K64: ↓hk64
/-! ### (*vouch/node.Node) . use -/
def V81 : Nat → Bool := fun i => [0, 1, 3, 4, 6, 7, 38, 39, 40, 41].elem i
def block81:=@s_block Tryz.prog 65 V81
def cond81:=@s_cond Tryz.prog 65 V81
def drw81:=@s_drw Tryz.prog 65 V81
def drwE81:=@s_drwE Tryz.prog 65 V81
def loop81:=@s_loop Tryz.prog 65 V81
def reg81:=@s_reg Tryz.prog 65 V81
def rend81:=@s_rend Tryz.prog 65 V81
def seq81:=@s_seq Tryz.prog 65 V81
noncomputable def c81:Code:=(Tryz.f81.body.getD .skip)
noncomputable def c81_1:=cR c81
noncomputable def c81_2:=cR c81_1
noncomputable def b81_2:List Row:=[(0, 0, 1, 16, true), (1, 1, 32768, 17, true), (2, 3, 65536, 18, true), (4, 7, 131072, 19, true), (8, 15, 262144, 20, true), (16, 31, 524288, 21, true), (32, 63, 1048576, 22, true), (0, 0, 8, 23, true), (192, 255, 6291456, 24, false)]
noncomputable def c81_3:=cR c81_2
noncomputable def c81_4:=cR c81_3
noncomputable def c81_5:=cR c81_4
noncomputable def c81_6:=cL c81_5
noncomputable def c81_7:=cL c81_6
noncomputable def c81_8:=cR c81_7
noncomputable def c81_9:=cR c81_8
noncomputable def c81_10:=cR c81_9
noncomputable def c81_11:=cL c81_9
noncomputable def c81_12:=cL c81_11
noncomputable def c81_13:=cR c81_12
noncomputable def c81_14:=cR c81_13
noncomputable def c81_15:=cR c81_14
noncomputable def b81_9:List Row:=[(0, 0, 1, 56, true), (1, 1, 36028797018963968, 57, true), (2, 3, 72057594037927936, 58, true), (4, 7, 144115188075855872, 59, true), (8, 15, 288230376151711744, 60, true), (16, 31, 576460752303423488, 61, true), (32, 63, 1152921504606846976, 62, true), (0, 0, 128, 63, true), (192, 255, 6917529027641081856, 64, false)]
noncomputable def c81_16:=cL c81_8
def c81_10_s:=rend81 c81_10 (fun N M G k e w =>
 N (xv (xbin .add 3 (.tmp 40) (.const (.int .i64 1)) (e 40) (.int .i64 1))) w fun t64 w =>
 M t64 fun t40 =>
 k (Env.p e 40 t40) w)
def c81_15_s:=drwE81 c81_15 b81_9 9 (fun N T M G H Y k e w =>
 M (e 0) fun t55 =>
 T (FrX none w) (xnil t55) fun t56 =>
 T (FrX none w) (xv (fieldAt 92 t56 2)) fun t57 =>
 T (FrX (some []) w) (xv (loadAt 89 t57)) fun t58 =>
 T (FrX none w) (xnil t58) fun t59 =>
 T (FrX none w) (xv (fieldAt 118 t59 1)) fun t60 =>
 T (FrX (some []) w) (xv (loadAt 114 t60)) fun t61 =>
 T (FrX (some []) w) (xv (loadAt 52 (e 7))) fun t62 =>
 N (xcall (.func (.func 114) #[] #[]) [t61, t62]) w fun t63 w8 =>
 k e w8)
def c81_14_s:=reg81 c81_14 c81_15 (fun N M G k e w =>
 M (e 0) fun t48 =>
 N (xnil t48) w fun t49 w =>
 N (xv (fieldAt 92 t49 2)) w fun t50 w =>
 N (xv (loadAt 89 t50)) w fun t51 w =>
 N (xcall (.func (.func 116) #[] #[]) [t51]) w fun t52 w =>
 N (xv (fieldAt 52 (e 7) 1)) w fun t53 w =>
 N (xu (storeAt 4 t53 (.bool false))) w fun _ w =>
 N (xv (fieldAt 52 (e 7) 2)) w fun t54 w =>
 N (xu (storeAt 2 t54 t52)) w fun _ w =>
 k e w)
def c81_13_s:=reg81 c81_13 c81_14 (fun N M G k e w =>
 M (e 4) fun t44 =>
 M (e 6) fun t45 =>
 N (xv (indexAt 41 t44 t45)) w fun t46 w =>
 N (xv (loadAt 52 t46)) w fun t47 w =>
 N (xv (Instr.alloc 52 true (.tuple #[]))) w fun t7 w =>
 N (xu (storeAt 52 t7 t47)) w fun _ w =>
 k (Env.p e 7 t7) w)
def c81_12_s:=reg81 c81_12 c81_13 (fun N M G k e w =>
 N (xv (indexAt 63 (e 38) (e 40))) w fun t42 w =>
 N (xv (loadAt 3 t42)) w fun t43 w =>
 M t43 fun t6 =>
 k (Env.p e 6 t6) w)
def c81_11_s:=block81 c81_11 c81_12 1
def c81_9_s:=seq81 c81_9 c81_10 c81_11
def c81_16_s:=cond81 c81_16 (.exit 0) 41 .skip
def c81_8_s:=seq81 c81_8 c81_9 c81_16
def c81_7_s:=reg81 c81_7 c81_8 (fun N M G k e w =>
 N (xv (xbin .lss 3 (.tmp 40) (.tmp 39) (e 40) (e 39))) w fun t41 w =>
 k (Env.p e 41 t41) w)
def c81_6_s:=loop81 c81_6 c81_7
def c81_5_s:=block81 c81_5 c81_6 0
def c81_4_s:=reg81 c81_4 c81_5 (fun N M G k e w =>
 M (e 4) fun t32 =>
 M (e 0) fun t33 =>
 N (xnil t33) w fun t34 w =>
 N (xv (fieldAt 92 t34 0)) w fun t35 w =>
 N (xv (fieldAt 25 t35 6)) w fun t36 w =>
 N (xv (loadAt 3 t36)) w fun t37 w =>
 N (xcall (.func (.func 142) #[] #[]) [t32, t37]) w fun t38 w =>
 N (builtin Builtin.len #[63] 3 ([false]).toArray ([t38]).toArray) w fun t39 w =>
 M (.int .i64 0) fun t40 =>
 k (Env.p (Env.p (Env.p e 38 t38) 39 t39) 40 t40) w)
def c81_3_s:=reg81 c81_3 c81_4 (fun N M G k e w =>
 M (e 0) fun t24 =>
 N (xnil t24) w fun t25 w =>
 N (xv (fieldAt 92 t25 2)) w fun t26 w =>
 N (xv (loadAt 89 t26)) w fun t27 w =>
 N (xnil t27) w fun t28 w =>
 N (xv (fieldAt 118 t28 1)) w fun t29 w =>
 N (xv (loadAt 114 t29)) w fun t30 w =>
 N (xcall (.func (.func 68) #[] #[]) [t30]) w fun t31 w =>
 M t31 fun t4 =>
 k (Env.p e 4 t4) w)
def c81_2_s:=drw81 c81_2 c81_3 b81_2 9 (fun N T M G H Y k e w =>
 M (e 0) fun t15 =>
 T (FrX none w) (xnil t15) fun t16 =>
 T (FrX none w) (xv (fieldAt 92 t16 2)) fun t17 =>
 T (FrX (some []) w) (xv (loadAt 89 t17)) fun t18 =>
 T (FrX none w) (xnil t18) fun t19 =>
 T (FrX none w) (xv (fieldAt 118 t19 1)) fun t20 =>
 T (FrX (some []) w) (xv (loadAt 114 t20)) fun t21 =>
 T (FrX (some []) w) (xv (loadAt 52 (e 3))) fun t22 =>
 N (xcall (.func (.func 114) #[] #[]) [t21, t22]) w fun t23 w8 =>
 k e w8)
def c81_1_s:=reg81 c81_1 c81_2 (fun N M G k e w =>
 M (e 0) fun t8 =>
 N (xnil t8) w fun t9 w =>
 N (xv (fieldAt 92 t9 2)) w fun t10 w =>
 N (xv (loadAt 89 t10)) w fun t11 w =>
 N (xcall (.func (.func 116) #[] #[]) [t11]) w fun t12 w =>
 N (xv (fieldAt 52 (e 3) 1)) w fun t13 w =>
 N (xu (storeAt 4 t13 (.bool true))) w fun _ w =>
 N (xv (fieldAt 52 (e 3) 2)) w fun t14 w =>
 N (xu (storeAt 2 t14 t12)) w fun _ w =>
 k e w)
def c81_s:=reg81 c81 c81_1 (fun N M G k e w =>
 N (xv (Instr.box 52 (e 1))) w fun t3 w =>
 k (Env.p e 3 t3) w)
theorem call81 {a0 a1 : Value} {w : World} {R : Value → World → Prop} (h : W3 Tryz.prog 65 V81 c81 (retQ Tryz.prog [] R) (argE [a0, a1]) w) : CallsN Tryz.prog 81 [a0, a1] w R :=
 callsN_of_W3 (c := c81) (rs := []) V81 Tryz.ntmps81 (by rw [Tryz.results81]) mixed Tryz.func81 (by kernel_rfl) (by kernel_rfl) (by kernel_rfl) (by kernel_rfl) (by simp) h
def w3t_81:=w3t Tryz.prog 65 V81
def hk81 := aI @c81_10_s <| aI @c81_15_s <| aI @c81_14_s <| aI @c81_13_s <| aI @c81_12_s <| aI @c81_11_s <| aI @c81_9_s <| aI @c81_16_s <| aI @c81_8_s <| aI @c81_7_s <| aI @c81_6_s <| aI @c81_5_s <| aI @c81_4_s <| aI @c81_3_s <| aI @c81_2_s <| aI @c81_1_s <| aI @c81_s <| @w3t_81
-- K81: ↓hk81
/-! ### (*vouch/node.memory) . stamp -/
def V116 : Nat → Bool := fun i => [0, 2].elem i
def reg116:=@s_reg Tryz.prog 14 V116
noncomputable def c116:Code:=(Tryz.f116.body.getD .skip)
noncomputable def c116_1:=cR c116
noncomputable def c116_2:=cR c116_1
def c116_2_s:=reg116 c116_2 .ret (fun N M G k e w =>
 M (e 0) fun t10 =>
 N (xnil t10) w fun t11 w =>
 N (xv (fieldAt 118 t11 4)) w fun t12 w =>
 N (xv (loadAt 2 t12)) w fun t13 w =>
 M t13 fun t2 =>
 k (Env.p e 2 t2) w)
def c116_1_s:=reg116 c116_1 c116_2 (fun N M G k e w =>
 M (e 0) fun t3 =>
 N (xnil t3) w fun t4 w =>
 N (xv (fieldAt 118 t4 4)) w fun t5 w =>
 N (xv (loadAt 2 t5)) w fun t6 w =>
 N (xv (xbin .add 2 (.tmp 6) (.const (.int .i64 1)) t6 (.int .i64 1))) w fun t7 w =>
 N (xnil t3) w fun t8 w =>
 N (xv (fieldAt 118 t8 4)) w fun t9 w =>
 N (xu (storeAt 2 t9 t7)) w fun _ w =>
 k e w)
def c116_s:=reg116 c116 c116_1 (fun N M G k e w =>
 M (.int .i64 0) fun t2 =>
 k (Env.p e 2 t2) w)
theorem call116 {a0 : Value} {w : World} {R : Value → World → Prop} (h : W3 Tryz.prog 14 V116 c116 (retQ Tryz.prog [.tmp 2] R) (argE [a0]) w) : CallsN Tryz.prog 116 [a0] w R :=
 callsN_of_W3 (c := c116) (rs := [.tmp 2]) V116 Tryz.ntmps116 (by rw [Tryz.results116]) mixed Tryz.func116 (by kernel_rfl) (by kernel_rfl) (by kernel_rfl) (by kernel_rfl) (by simp) h
def w3t_116:=w3t Tryz.prog 14 V116
def hk116 := aI @c116_2_s <| aI @c116_1_s <| aI @c116_s <| @w3t_116
-- K116: ↓hk116
/-! ### (*vouch/node.Node) . evict -/
def V117 : Nat → Bool := fun i => [0, 1, 2, 3, 5, 8, 10, 11, 13, 15, 16, 17, 18, 25, 34].elem i
def block117:=@s_block Tryz.prog 55 V117
def cond117:=@s_cond Tryz.prog 55 V117
def drwE117:=@s_drwE Tryz.prog 55 V117
def loop117:=@s_loop Tryz.prog 55 V117
def reg117:=@s_reg Tryz.prog 55 V117
def rend117:=@s_rend Tryz.prog 55 V117
def seq117:=@s_seq Tryz.prog 55 V117
noncomputable def c117:Code:=(Tryz.f117.body.getD .skip)
noncomputable def c117_1:=cR c117
noncomputable def c117_2:=cL c117_1
noncomputable def c117_3:=cL c117_2
noncomputable def c117_4:=cR c117_3
noncomputable def c117_5:=cL c117_4
noncomputable def c117_6:=cR c117_5
noncomputable def c117_7:=cR c117_6
noncomputable def c117_8:=cR c117_7
noncomputable def c117_9:=cR c117_8
noncomputable def b117_11:List Row:=[(0, 0, 1, 36, true), (1, 1, 34359738368, 37, true), (2, 3, 68719476736, 38, true), (4, 7, 137438953472, 39, true), (8, 15, 274877906944, 40, true), (16, 31, 549755813888, 41, true), (32, 63, 1099511627776, 42, true), (0, 0, 256, 43, true), (0, 0, 2048, 44, true), (384, 384, 13194139533312, 45, true), (512, 896, 17592186044416, 46, true), (1024, 1920, 35184372088832, 47, true), (2048, 3968, 70368744177664, 48, true), (0, 0, 256, 49, true), (0, 0, 2048, 50, true), (24576, 24576, 844424930131968, 51, true), (32768, 57344, 1125899906842624, 52, true), (65536, 122880, 2251799813685248, 53, true), (131072, 253952, 4503599627370496, 54, true), (266304, 524287, 9150135766351872, 55, false)]
noncomputable def c117_10:=cL c117_8
noncomputable def c117_11:=cR c117_10
noncomputable def c117_12:=cL c117_6
noncomputable def c117_13:=cR c117_12
noncomputable def c117_14:=cL c117_13
noncomputable def c117_15:=cL c117_14
noncomputable def c117_16:=cR c117_15
noncomputable def c117_17:=cR c117_16
noncomputable def c117_18:=cR c117_17
noncomputable def c117_19:=cL c117_17
noncomputable def c117_20:=cL c117_19
noncomputable def c117_21:=cR c117_20
noncomputable def c117_22:=cR c117_21
noncomputable def c117_23:=cL c117_22
noncomputable def c117_24:=cL c117_16
noncomputable def c117_25:=cL c117_3
noncomputable def c117_26:=cR c117_25
def c117_9_s:=drwE117 c117_9 b117_11 20 (fun N T M G H Y k e w =>
 M (e 0) fun t35 =>
 T (FrX none w) (xnil t35) fun t36 =>
 T (FrX none w) (xv (fieldAt 92 t36 2)) fun t37 =>
 T (FrX (some []) w) (xv (loadAt 89 t37)) fun t38 =>
 T (FrX none w) (xnil t38) fun t39 =>
 T (FrX none w) (xv (fieldAt 118 t39 1)) fun t40 =>
 T (FrX (some []) w) (xv (loadAt 114 t40)) fun t41 =>
 M (e 8) fun t42 =>
 M (e 11) fun t43 =>
 T (FrX none w) (xv (indexAt 41 t42 t43)) fun t44 =>
 T (FrX none w) (xv (fieldAt 52 t44 0)) fun t45 =>
 T (FrX none w) (xv (fieldAt 34 t45 0)) fun t46 =>
 T (FrX (some []) w) (xv (loadAt 9 t46)) fun t47 =>
 M (e 8) fun t48 =>
 M (e 11) fun t49 =>
 T (FrX none w) (xv (indexAt 41 t48 t49)) fun t50 =>
 T (FrX none w) (xv (fieldAt 52 t50 0)) fun t51 =>
 T (FrX none w) (xv (fieldAt 34 t51 2)) fun t52 =>
 T (FrX (some []) w) (xv (loadAt 2 t52)) fun t53 =>
 N (xcall (.func (.func 89) #[] #[]) [t41, t47, t53]) w fun t54 w19 =>
 k e w19)
def c117_11_s:=cond117 c117_11 .skip 34 .ret
def c117_10_s:=reg117 c117_10 c117_11 (fun N M G k e w =>
 M (e 11) fun t33 =>
 N (xv (xbin .lss 3 (.tmp 33) (.const (.int .i64 0)) t33 (.int .i64 0))) w fun t34 w =>
 k (Env.p e 34 t34) w)
def c117_8_s:=seq117 c117_8 c117_9 c117_10
def c117_7_s:=reg117 c117_7 c117_8 (fun N M G k e w =>
 M (e 8) fun t31 =>
 N (xcall (.func (.func 88) #[] #[]) [t31]) w fun t32 w =>
 M t32 fun t11 =>
 k (Env.p e 11 t11) w)
def c117_18_s:=rend117 c117_18 (fun N M G k e w =>
 N (xv (xbin .add 3 (.tmp 17) (.const (.int .i64 1)) (e 17) (.int .i64 1))) w fun t30 w =>
 M t30 fun t17 =>
 k (Env.p e 17 t17) w)
def c117_23_s:=rend117 c117_23 (fun N M G k e w =>
 M (e 8) fun t26 =>
 N (xv (loadAt 52 (e 10))) w fun t27 w =>
 N (xv (Instr.buildSlice 41 1 ([(0, t27)]).toArray)) w fun t28 w =>
 N (builtin Builtin.append #[41, 41] 41 ([false, false]).toArray ([t26, t28]).toArray) w fun t29 w =>
 M t29 fun t8 =>
 k (Env.p e 8 t8) w)
def c117_22_s:=cond117 c117_22 .skip 25 c117_23
def c117_21_s:=reg117 c117_21 c117_22 (fun N M G k e w =>
 N (xv (fieldAt 52 (e 10) 3)) w fun t21 w =>
 N (xv (loadAt 2 t21)) w fun t22 w =>
 N (xv (fieldAt 52 (e 5) 3)) w fun t23 w =>
 N (xv (loadAt 2 t23)) w fun t24 w =>
 N (xv (xbin .neq 2 (.tmp 22) (.tmp 24) t22 t24)) w fun t25 w =>
 k (Env.p e 25 t25) w)
def c117_20_s:=reg117 c117_20 c117_21 (fun N M G k e w =>
 N (xv (indexAt 41 (e 15) (e 17))) w fun t19 w =>
 N (xv (loadAt 52 t19)) w fun t20 w =>
 N (xv (Instr.alloc 52 true (.tuple #[]))) w fun t10 w =>
 N (xu (storeAt 52 t10 t20)) w fun _ w =>
 k (Env.p e 10 t10) w)
def c117_19_s:=block117 c117_19 c117_20 3
def c117_17_s:=seq117 c117_17 c117_18 c117_19
def c117_24_s:=cond117 c117_24 (.exit 2) 18 .skip
def c117_16_s:=seq117 c117_16 c117_17 c117_24
def c117_15_s:=reg117 c117_15 c117_16 (fun N M G k e w =>
 N (xv (xbin .lss 3 (.tmp 17) (.tmp 16) (e 17) (e 16))) w fun t18 w =>
 k (Env.p e 18 t18) w)
def c117_14_s:=loop117 c117_14 c117_15
def c117_13_s:=block117 c117_13 c117_14 2
def c117_12_s:=reg117 c117_12 c117_13 (fun N M G k e w =>
 M (e 2) fun t14 =>
 N (xcall t14 []) w fun t15 w =>
 N (builtin Builtin.len #[41] 3 ([false]).toArray ([t15]).toArray) w fun t16 w =>
 M (.int .i64 0) fun t17 =>
 k (Env.p (Env.p (Env.p e 15 t15) 16 t16) 17 t17) w)
def c117_6_s:=seq117 c117_6 c117_7 c117_12
def c117_5_s:=reg117 c117_5 c117_6 (fun N M G k e w =>
 M (.slice none 0 0) fun t8 =>
 k (Env.p e 8 t8) w)
def c117_4_s:=block117 c117_4 c117_5 1
def c117_26_s:=cond117 c117_26 (.exit 0) 13 .skip
def c117_25_s:=reg117 c117_25 c117_26 (fun N M G k e w =>
 M (e 3) fun t12 =>
 N (xcall t12 []) w fun t13 w =>
 k (Env.p e 13 t13) w)
def c117_3_s:=seq117 c117_3 c117_4 c117_25
def c117_2_s:=loop117 c117_2 c117_3
def c117_1_s:=block117 c117_1 c117_2 0
def c117_s:=reg117 c117 c117_1 (fun N M G k e w =>
 N (xv (Instr.box 52 (e 1))) w fun t5 w =>
 k (Env.p e 5 t5) w)
theorem call117 {a0 a1 a2 a3 : Value} {w : World} {R : Value → World → Prop} (h : W3 Tryz.prog 55 V117 c117 (retQ Tryz.prog [] R) (argE [a0, a1, a2, a3]) w) : CallsN Tryz.prog 117 [a0, a1, a2, a3] w R :=
 callsN_of_W3 (c := c117) (rs := []) V117 Tryz.ntmps117 (by rw [Tryz.results117]) mixed Tryz.func117 (by kernel_rfl) (by kernel_rfl) (by kernel_rfl) (by kernel_rfl) (by simp) h
def w3t_117:=w3t Tryz.prog 55 V117
def hk117 := aI @c117_9_s <| aI @c117_11_s <| aI @c117_10_s <| aI @c117_8_s <| aI @c117_7_s <| aI @c117_18_s <| aI @c117_23_s <| aI @c117_22_s <| aI @c117_21_s <| aI @c117_20_s <| aI @c117_19_s <| aI @c117_17_s <| aI @c117_24_s <| aI @c117_16_s <| aI @c117_15_s <| aI @c117_14_s <| aI @c117_13_s <| aI @c117_12_s <| aI @c117_6_s <| aI @c117_5_s <| aI @c117_4_s <| aI @c117_26_s <| aI @c117_25_s <| aI @c117_3_s <| aI @c117_2_s <| aI @c117_1_s <| aI @c117_s <| @w3t_117
-- K117: ↓hk117
end
end Go.Proofs.YtomlgkecckffeaaGreat
