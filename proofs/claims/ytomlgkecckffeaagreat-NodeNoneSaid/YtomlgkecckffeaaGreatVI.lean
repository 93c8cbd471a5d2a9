/- The equations of the code of some functions, written by the printer gen3.py: each is checked by the kernel. -/
import Derived.Test.YtomlgkecckffeaaGreatCI
set_option linter.unusedVariables false
set_option linter.unusedSimpArgs false
set_option maxRecDepth 100000
namespace Go.Proofs.YtomlgkecckffeaaGreat
open Go.VW
open Go.Instr (loadAt storeAt fieldAt indexAt)
noncomputable section
set_option linter.defProp false
variable {N : NT} {T : T3T} {M : MT} {G : GT} {H : HT} {Y : YT} {k : KT} {Q : Exit → Env → World → Prop} {e el eg : Env} {w u0 u1 u2 u3 u4 u5 u6 u7 u8 u9 : World}
/-! ### vouch/vouchlaw12.fixed -/
def V14 : Nat → Bool := fun i => [0, 1, 2, 3, 4, 21, 46].elem i
def cond14:=@s_cond Tryz.prog 62 V14
def drw14:=@s_drw Tryz.prog 62 V14
def reg14:=@s_reg Tryz.prog 62 V14
def seq14:=@s_seq Tryz.prog 62 V14
noncomputable def c14:Code:=(Tryz.f14.body.getD .skip)
noncomputable def c14_1:=cR c14
noncomputable def c14_2:=cR c14_1
noncomputable def c14_3:=cR c14_2
noncomputable def c14_4:=cR c14_3
noncomputable def c14_5:=cR c14_4
noncomputable def c14_6:=cR c14_5
noncomputable def c14_7:=cL c14_4
noncomputable def b14_5:List Row:=[(0, 0, 4, 30, true), (0, 0, 0, 31, false), (3, 3, 1610612736, 32, true), (6, 7, 2147483648, 33, true), (8, 15, 4294967304, 34, true), (8, 15, 4294967296, 35, true), (56, 63, 30064771072, 36, true), (72, 127, 38654705664, 37, true), (136, 255, 68719476736, 38, true), (256, 511, 137438953488, 39, true), (768, 1023, 412316860416, 40, true), (1280, 2047, 687194767360, 41, true), (2304, 4095, 1099511627776, 42, true), (4096, 8191, 2199023255554, 43, true), (4096, 8191, 2199023255552, 44, false), (20480, 24575, 10995116277760, 45, true), (45056, 65535, 24189255811072, 46, false), (69632, 131071, 37383395344384, 47, true)]
noncomputable def c14_8:=cR c14_7
noncomputable def c14_9:=cL c14_8
noncomputable def c14_10:=cL c14_2
noncomputable def c14_11:=cR c14_10
noncomputable def c14_12:=cL c14_11
def c14_6_s:=reg14 c14_6 .ret (fun N M G k e w =>
 M (e 4) fun t54 =>
 N (xv (Op.unary .not t54)) w fun t55 w =>
 M t55 fun t56 =>
 G (isB t56 true) (fun K => M (e 1) fun v => K v w) (fun t57 w =>
 G (isB t56 true) (fun K => N (xcall (.func (.func 23) #[] #[]) [t57]) w K) (fun t58 w =>
 G (isB t56 true) (fun K => N (xv (Instr.field 43 t58 3)) w K) (fun t59 w =>
 G (isB t56 true) (fun K => N (xv (xbin .eql 2 (.tmp 59) (.const (.int .i64 2)) t59 (.int .i64 2))) w K) (fun t60 w =>
 N (xpick t56 t60 (.bool false)) w fun t61 w =>
 M t61 fun t0 =>
 k (Env.p e 0 t0) w) w) w) w) w)
def c14_5_s:=reg14 c14_5 c14_6 (fun N M G k e w =>
 M (e 1) fun t48 =>
 N (xv (Instr.build 48 ([(0, (.int .i64 2)), (1, (.int .i64 9))]).toArray)) w fun t49 w =>
 N (xcall (.func (.func 25) #[] #[]) [t48, (.string ⟨#[107]⟩), t49]) w fun t50 w =>
 M t50 fun t47 =>
 N (xv (Instr.extract t47 0)) w fun t51 w =>
 N (xv (Instr.extract t47 1)) w fun t52 w =>
 N (xv (Instr.extract t47 2)) w fun t53 w =>
 M t53 fun t4 =>
 k (Env.p e 4 t4) w)
def c14_9_s:=reg14 c14_9 .ret (fun N M G k e w =>
 M (.bool false) fun t0 =>
 k (Env.p e 0 t0) w)
def c14_8_s:=cond14 c14_8 .skip 46 c14_9
def c14_7_s:=drw14 c14_7 c14_8 b14_5 18 (fun N T M G H Y k e w =>
 T (FrX (some []) w) (xv (loadAt 31 (e 2))) fun t29 =>
 N (xcall (.func (.func 17) #[] #[]) [(.string ⟨#[120]⟩)]) w fun t30 w1 =>
 Y true (xv (loadAt 31 (e 2))) t29 w w1 ∧ (T (FrX none w1) (xv (xbin .neq 31 (.tmp 29) (.tmp 30) t29 t30)) fun t31 =>
 M t31 fun t32 =>
 H (isB t32 false) (fun K => T (FrX (some []) w1) (xv (loadAt 48 (e 3))) K) (fun t33 =>
 H (isB t32 false) (fun K => T (FrX none w1) (xv (Instr.build 48 ([(0, (.int .i64 0)), (1, (.int .i64 2))]).toArray)) K) (fun t34 =>
 H (isB t32 false) (fun K => T (FrX none w1) (xv (xbin .neq 48 (.tmp 33) (.tmp 34) t33 t34)) K) (fun t35 =>
 T (FrX none w1) (xpick t32 (.bool true) t35) fun t36 =>
 M t36 fun t37 =>
 H (isB t37 false) (fun K => M (e 4) K) (fun t38 =>
 H (isB t37 false) (fun K => T (FrX none w1) (xv (Op.unary .not t38)) K) (fun t39 =>
 T (FrX none w1) (xpick t37 (.bool true) t39) fun t40 =>
 M t40 fun t41 =>
 H (isB t41 false) (fun K => M (e 1) K) (fun t42 =>
 G (isB t41 false) (fun K => N (xv (Instr.buildSlice 22 1 ([(0, (.string ⟨#[107]⟩))]).toArray)) w1 K) (fun t43 w14 =>
 H (isB t41 false) (fun K => T (FrX none w14) (xv (Instr.build 38 ([(0, (.int .i64 2)), (1, t43)]).toArray)) K) (fun t44 =>
 G (isB t41 false) (fun K => N (xcall (.func (.func 20) #[] #[]) [t42, t44]) w14 K) (fun t45 w16 =>
 T (FrX none w16) (xpick t41 (.bool true) t45) fun t46 =>
 k (Env.p e 46 t46) w16) w14)) w1))))))))
def c14_4_s:=seq14 c14_4 c14_5 c14_7
def c14_3_s:=reg14 c14_3 c14_4 (fun N M G k e w =>
 M (e 1) fun t23 =>
 N (xv (Instr.build 48 ([(0, (.int .i64 1)), (1, (.int .i64 5))]).toArray)) w fun t24 w =>
 N (xcall (.func (.func 25) #[] #[]) [t23, (.string ⟨#[107]⟩), t24]) w fun t25 w =>
 M t25 fun t22 =>
 N (xv (Instr.extract t22 0)) w fun t26 w =>
 N (xv (Instr.extract t22 1)) w fun t27 w =>
 N (xv (Instr.extract t22 2)) w fun t28 w =>
 N (xv (Instr.alloc 31 true (.tuple #[]))) w fun t2 w =>
 N (xv (Instr.alloc 48 true (.tuple #[]))) w fun t3 w =>
 N (xu (storeAt 31 t2 t26)) w fun _ w =>
 N (xu (storeAt 48 t3 t27)) w fun _ w =>
 M t28 fun t4 =>
 k (Env.p (Env.p (Env.p e 2 t2) 3 t3) 4 t4) w)
def c14_12_s:=reg14 c14_12 .ret (fun N M G k e w =>
 M (.bool false) fun t0 =>
 k (Env.p e 0 t0) w)
def c14_11_s:=cond14 c14_11 .skip 21 c14_12
def c14_10_s:=reg14 c14_10 c14_11 (fun N M G k e w =>
 M (e 1) fun t7 =>
 N (xv (xbin .eql 26 (.tmp 7) (.const (.pointer none)) t7 (.pointer none))) w fun t8 w =>
 M t8 fun t9 =>
 G (isB t9 false) (fun K => M (e 1) fun v => K v w) (fun t10 w =>
 G (isB t9 false) (fun K => N (xcall (.func (.func 17) #[] #[]) [(.string ⟨#[120]⟩)]) w K) (fun t11 w =>
 G (isB t9 false) (fun K => N (xv (Instr.build 34 ([(0, (.string ⟨#[107]⟩)), (1, t11), (3, (.int .i64 4611686018427387904))]).toArray)) w K) (fun t12 w =>
 G (isB t9 false) (fun K => N (xcall (.func (.func 18) #[] #[]) [t10, t12, (.int .i64 0)]) w K) (fun t13 w =>
 G (isB t9 false) (fun K => N (xv (Op.unary .not t13)) w K) (fun t14 w =>
 N (xpick t9 (.bool true) t14) w fun t15 w =>
 M t15 fun t16 =>
 G (isB t16 false) (fun K => M (e 1) fun v => K v w) (fun t17 w =>
 G (isB t16 false) (fun K => N (xv (Instr.buildSlice 22 1 ([(0, (.string ⟨#[106]⟩))]).toArray)) w K) (fun t18 w =>
 G (isB t16 false) (fun K => N (xv (Instr.build 38 ([(0, (.int .i64 1)), (1, t18)]).toArray)) w K) (fun t19 w =>
 G (isB t16 false) (fun K => N (xcall (.func (.func 20) #[] #[]) [t17, t19]) w K) (fun t20 w =>
 N (xpick t16 (.bool true) t20) w fun t21 w =>
 k (Env.p e 21 t21) w) w) w) w) w) w) w) w) w) w)
def c14_2_s:=seq14 c14_2 c14_3 c14_10
def c14_1_s:=reg14 c14_1 c14_2 (fun N M G k e w =>
 N (xv (Instr.build 25 ([(0, (.int .i64 1)), (1, (.int .i64 100)), (2, (.int .i64 2)), (3, (.int .i64 2)), (4, (.int .i64 2)), (5, (.int .i64 1)), (6, (.int .i64 1))]).toArray)) w fun t5 w =>
 N (xcall (.func (.func 15) #[] #[]) [t5]) w fun t6 w =>
 M t6 fun t1 =>
 k (Env.p e 1 t1) w)
def c14_s:=reg14 c14 c14_1 (fun N M G k e w =>
 M (.bool false) fun t0 =>
 k (Env.p e 0 t0) w)
theorem call14 {w : World} {R : Value → World → Prop} (h : W3 Tryz.prog 62 V14 c14 (retQ Tryz.prog [.tmp 0] R) (argE []) w) : CallsN Tryz.prog 14 [] w R :=
 callsN_of_W3 (c := c14) (rs := [.tmp 0]) V14 Tryz.ntmps14 (by rw [Tryz.results14]) mixed Tryz.func14 (by kernel_rfl) (by kernel_rfl) (by kernel_rfl) (by kernel_rfl) (by simp) h
def w3t_14:=w3t Tryz.prog 62 V14
def hk14 := aI @c14_6_s <| aI @c14_5_s <| aI @c14_9_s <| aI @c14_8_s <| aI @c14_7_s <| aI @c14_4_s <| aI @c14_3_s <| aI @c14_12_s <| aI @c14_11_s <| aI @c14_10_s <| aI @c14_2_s <| aI @c14_1_s <| aI @c14_s <| @w3t_14
-- K14: ↓hk14
/-! ### vouch/vouchlaw12.text -/
def V17 : Nat → Bool := fun i => [0, 2].elem i
def reg17:=@s_reg Tryz.prog 5 V17
noncomputable def c17:Code:=(Tryz.f17.body.getD .skip)
noncomputable def c17_1:=cR c17
def c17_1_s:=reg17 c17_1 .ret (fun N M G k e w =>
 M (e 0) fun t3 =>
 N (xv (Instr.build 31 ([(0, (.bool true)), (1, t3)]).toArray)) w fun t4 w =>
 N (xu (storeAt 31 (e 2) t4)) w fun _ w =>
 k e w)
def c17_s:=reg17 c17 c17_1 (fun N M G k e w =>
 N (xv (Instr.alloc 31 true (.tuple #[]))) w fun t2 w =>
 k (Env.p e 2 t2) w)
theorem call17 {a0 : Value} {w : World} {R : Value → World → Prop} (h : W3 Tryz.prog 5 V17 c17 (retQ Tryz.prog [.cell 2 31] R) (argE [a0]) w) : CallsN Tryz.prog 17 [a0] w R :=
 callsN_of_W3 (c := c17) (rs := [.cell 2 31]) V17 Tryz.ntmps17 (by rw [Tryz.results17]) mixed Tryz.func17 (by kernel_rfl) (by kernel_rfl) (by kernel_rfl) (by kernel_rfl) (by simp) h
def w3t_17:=w3t Tryz.prog 5 V17
def hk17 := aI @c17_1_s <| aI @c17_s <| @w3t_17
-- K17: ↓hk17
/-! ### vouch/vouchlaw12.NodeNone -/
def V13 : Nat → Bool := fun i => [0, 1, 2, 3, 4, 5, 6, 7, 8, 9, 10, 11, 12, 13, 15].elem i
def cond13:=@s_cond Tryz.prog 144 V13
def reg13:=@s_reg Tryz.prog 144 V13
def seq13:=@s_seq Tryz.prog 144 V13
noncomputable def c13:Code:=(Tryz.f13.body.getD .skip)
noncomputable def c13_1:=cR c13
noncomputable def c13_2:=cR c13_1
noncomputable def c13_3:=cR c13_2
noncomputable def c13_4:=cR c13_3
noncomputable def c13_5:=cR c13_4
noncomputable def c13_6:=cR c13_5
noncomputable def c13_7:=cR c13_6
noncomputable def c13_8:=cR c13_7
noncomputable def c13_9:=cL c13_1
noncomputable def c13_10:=cR c13_9
noncomputable def c13_11:=cL c13_10
def c13_8_s:=reg13 c13_8 .ret (fun N M G k e w =>
 N (xv (loadAt 31 (e 4))) w fun t43 w =>
 N (xv (Instr.build 31 ([]).toArray)) w fun t44 w =>
 N (xv (xbin .eql 31 (.tmp 43) (.tmp 44) t43 t44)) w fun t45 w =>
 M t45 fun t46 =>
 G (isB t46 true) (fun K => N (xv (loadAt 48 (e 5))) w K) (fun t47 w =>
 G (isB t46 true) (fun K => N (xv (Instr.build 48 ([]).toArray)) w K) (fun t48 w =>
 G (isB t46 true) (fun K => N (xv (xbin .eql 48 (.tmp 47) (.tmp 48) t47 t48)) w K) (fun t49 w =>
 N (xpick t46 t49 (.bool false)) w fun t50 w =>
 M t50 fun t51 =>
 G (isB t51 true) (fun K => M (e 6) fun v => K v w) (fun t52 w =>
 G (isB t51 true) (fun K => N (xv (Op.unary .not t52)) w K) (fun t53 w =>
 N (xpick t51 t53 (.bool false)) w fun t54 w =>
 M t54 fun t55 =>
 G (isB t55 true) (fun K => N (xv (loadAt 52 (e 7))) w K) (fun t56 w =>
 G (isB t55 true) (fun K => N (xv (Instr.build 52 ([]).toArray)) w K) (fun t57 w =>
 G (isB t55 true) (fun K => N (xv (xbin .eql 52 (.tmp 56) (.tmp 57) t56 t57)) w K) (fun t58 w =>
 N (xpick t55 t58 (.bool false)) w fun t59 w =>
 M t59 fun t60 =>
 G (isB t60 true) (fun K => M (e 8) fun v => K v w) (fun t61 w =>
 G (isB t60 true) (fun K => N (xv (Op.unary .not t61)) w K) (fun t62 w =>
 N (xpick t60 t62 (.bool false)) w fun t63 w =>
 M t63 fun t64 =>
 G (isB t64 true) (fun K => M (e 9) fun v => K v w) (fun t65 w =>
 G (isB t64 true) (fun K => N (xv (Op.unary .not t65)) w K) (fun t66 w =>
 N (xpick t64 t66 (.bool false)) w fun t67 w =>
 M t67 fun t68 =>
 G (isB t68 true) (fun K => M (e 10) fun v => K v w) (fun t69 w =>
 G (isB t68 true) (fun K => N (xv (xbin .eql 2 (.tmp 69) (.const (.int .i64 0)) t69 (.int .i64 0))) w K) (fun t70 w =>
 N (xpick t68 t70 (.bool false)) w fun t71 w =>
 M t71 fun t72 =>
 G (isB t72 true) (fun K => M (e 11) fun v => K v w) (fun t73 w =>
 G (isB t72 true) (fun K => N (xv (Op.unary .not t73)) w K) (fun t74 w =>
 N (xpick t72 t74 (.bool false)) w fun t75 w =>
 M t75 fun t76 =>
 G (isB t76 true) (fun K => M (e 3) fun v => K v w) (fun t77 w =>
 G (isB t76 true) (fun K => N (xv (fieldAt 50 (e 1) 3)) w K) (fun t78 w =>
 G (isB t76 true) (fun K => N (xv (loadAt 34 t78)) w K) (fun t79 w =>
 G (isB t76 true) (fun K => N (xv (fieldAt 50 (e 1) 4)) w K) (fun t80 w =>
 G (isB t76 true) (fun K => N (xv (loadAt 2 t80)) w K) (fun t81 w =>
 G (isB t76 true) (fun K => N (xcall (.func (.func 18) #[] #[]) [t77, t79, t81]) w K) (fun t82 w =>
 G (isB t76 true) (fun K => N (xv (Op.unary .not t82)) w K) (fun t83 w =>
 N (xpick t76 t83 (.bool false)) w fun t84 w =>
 M t84 fun t85 =>
 G (isB t85 true) (fun K => M (e 3) fun v => K v w) (fun t86 w =>
 G (isB t85 true) (fun K => N (xv (fieldAt 50 (e 1) 4)) w K) (fun t87 w =>
 G (isB t85 true) (fun K => N (xv (loadAt 2 t87)) w K) (fun t88 w =>
 G (isB t85 true) (fun K => N (xv (fieldAt 50 (e 1) 5)) w K) (fun t89 w =>
 G (isB t85 true) (fun K => N (xv (loadAt 22 t89)) w K) (fun t90 w =>
 G (isB t85 true) (fun K => N (xv (Instr.build 38 ([(0, t88), (1, t90)]).toArray)) w K) (fun t91 w =>
 G (isB t85 true) (fun K => N (xcall (.func (.func 20) #[] #[]) [t86, t91]) w K) (fun t92 w =>
 G (isB t85 true) (fun K => N (xv (Op.unary .not t92)) w K) (fun t93 w =>
 N (xpick t85 t93 (.bool false)) w fun t94 w =>
 M t94 fun t95 =>
 G (isB t95 true) (fun K => M (e 3) fun v => K v w) (fun t96 w =>
 G (isB t95 true) (fun K => N (xv (fieldAt 50 (e 1) 6)) w K) (fun t97 w =>
 G (isB t95 true) (fun K => N (xv (loadAt 3 t97)) w K) (fun t98 w =>
 G (isB t95 true) (fun K => N (xv (fieldAt 50 (e 1) 4)) w K) (fun t99 w =>
 G (isB t95 true) (fun K => N (xv (loadAt 2 t99)) w K) (fun t100 w =>
 G (isB t95 true) (fun K => N (xcall (.func (.func 27) #[] #[]) [t96, t98, t100]) w K) (fun t101 w =>
 G (isB t95 true) (fun K => N (xv (Op.unary .not t101)) w K) (fun t102 w =>
 N (xpick t95 t102 (.bool false)) w fun t103 w =>
 M t103 fun t104 =>
 G (isB t104 true) (fun K => M (e 3) fun v => K v w) (fun t105 w =>
 G (isB t104 true) (fun K => N (xcall (.func (.func 40) #[] #[]) [t105]) w K) (fun t106 w =>
 G (isB t104 true) (fun K => N (xv (Op.unary .not t106)) w K) (fun t107 w =>
 N (xpick t104 t107 (.bool false)) w fun t108 w =>
 M t108 fun t109 =>
 G (isB t109 true) (fun K => M (e 3) fun v => K v w) (fun t110 w =>
 G (isB t109 true) (fun K => N (xcall (.func (.func 41) #[] #[]) [t110]) w K) (fun t111 w =>
 G (isB t109 true) (fun K => N (xv (Op.unary .not t111)) w K) (fun t112 w =>
 N (xpick t109 t112 (.bool false)) w fun t113 w =>
 M t113 fun t114 =>
 G (isB t114 true) (fun K => N (xv (fieldAt 43 (e 12) 0)) w K) (fun t115 w =>
 G (isB t114 true) (fun K => N (xv (loadAt 4 t115)) w K) (fun t116 w =>
 G (isB t114 true) (fun K => N (xv (Op.unary .not t116)) w K) (fun t117 w =>
 N (xpick t114 t117 (.bool false)) w fun t118 w =>
 M t118 fun t119 =>
 G (isB t119 true) (fun K => N (xv (fieldAt 43 (e 12) 2)) w K) (fun t120 w =>
 G (isB t119 true) (fun K => N (xv (loadAt 3 t120)) w K) (fun t121 w =>
 G (isB t119 true) (fun K => N (xv (xbin .eql 3 (.tmp 121) (.const (.int .i64 0)) t121 (.int .i64 0))) w K) (fun t122 w =>
 N (xpick t119 t122 (.bool false)) w fun t123 w =>
 M t123 fun t124 =>
 G (isB t124 true) (fun K => N (xv (fieldAt 43 (e 12) 7)) w K) (fun t125 w =>
 G (isB t124 true) (fun K => N (xv (loadAt 41 t125)) w K) (fun t126 w =>
 G (isB t124 true) (fun K => N (builtin Builtin.len #[41] 3 ([false]).toArray ([t126]).toArray) w K) (fun t127 w =>
 G (isB t124 true) (fun K => N (xv (xbin .eql 3 (.tmp 127) (.const (.int .i64 0)) t127 (.int .i64 0))) w K) (fun t128 w =>
 N (xpick t124 t128 (.bool false)) w fun t129 w =>
 M t129 fun t130 =>
 G (isB t130 true) (fun K => M (e 13) fun v => K v w) (fun t131 w =>
 G (isB t130 true) (fun K => N (xv (xbin .neq 81 (.tmp 131) (.const (.pointer none)) t131 (.pointer none))) w K) (fun t132 w =>
 N (xpick t130 t132 (.bool false)) w fun t133 w =>
 M t133 fun t134 =>
 G (isB t134 true) (fun K => M (e 13) fun v => K v w) (fun t135 w =>
 G (isB t134 true) (fun K => N (xcall (.func (.func 42) #[] #[]) [t135]) w K) (fun t136 w =>
 G (isB t134 true) (fun K => N (xv (xbin .eql 3 (.tmp 136) (.const (.int .i64 0)) t136 (.int .i64 0))) w K) (fun t137 w =>
 N (xpick t134 t137 (.bool false)) w fun t138 w =>
 M t138 fun t139 =>
 G (isB t139 true) (fun K => M (e 3) fun v => K v w) (fun t140 w =>
 G (isB t139 true) (fun K => N (xcall (.func (.func 33) #[] #[]) [t140]) w K) (fun t141 w =>
 G (isB t139 true) (fun K => N (xv (xbin .eql 26 (.tmp 141) (.const (.pointer none)) t141 (.pointer none))) w K) (fun t142 w =>
 N (xpick t139 t142 (.bool false)) w fun t143 w =>
 M t143 fun t2 =>
 k (Env.p e 2 t2) w) w) w) w) w) w) w) w) w) w) w) w) w) w) w) w) w) w) w) w) w) w) w) w) w) w) w) w) w) w) w) w) w) w) w) w) w) w) w) w) w) w) w) w) w) w) w) w) w) w) w) w) w) w) w) w) w) w) w) w) w) w) w)
def c13_7_s:=reg13 c13_7 c13_8 (fun N M G k e w =>
 M (e 3) fun t39 =>
 N (xv (fieldAt 50 (e 1) 1)) w fun t40 w =>
 N (xv (loadAt 9 t40)) w fun t41 w =>
 N (xcall (.func (.func 37) #[] #[]) [t39, t41]) w fun t42 w =>
 M t42 fun t13 =>
 k (Env.p e 13 t13) w)
def c13_6_s:=reg13 c13_6 c13_7 (fun N M G k e w =>
 M (e 3) fun t37 =>
 N (xcall (.func (.func 23) #[] #[]) [t37]) w fun t38 w =>
 N (xv (Instr.alloc 43 true (.tuple #[]))) w fun t12 w =>
 N (xu (storeAt 43 t12 t38)) w fun _ w =>
 k (Env.p e 12 t12) w)
def c13_5_s:=reg13 c13_5 c13_6 (fun N M G k e w =>
 M (e 3) fun t32 =>
 N (xcall (.func (.func 39) #[] #[]) [t32]) w fun t33 w =>
 M t33 fun t31 =>
 N (xv (Instr.extract t31 0)) w fun t34 w =>
 N (xv (Instr.extract t31 1)) w fun t35 w =>
 N (xv (Instr.extract t31 2)) w fun t36 w =>
 M t34 fun t9 =>
 M t35 fun t10 =>
 M t36 fun t11 =>
 k (Env.p (Env.p (Env.p e 9 t9) 10 t10) 11 t11) w)
def c13_4_s:=reg13 c13_4 c13_5 (fun N M G k e w =>
 M (e 3) fun t27 =>
 N (xcall (.func (.func 29) #[] #[]) [t27]) w fun t28 w =>
 M t28 fun t26 =>
 N (xv (Instr.extract t26 0)) w fun t29 w =>
 N (xv (Instr.extract t26 1)) w fun t30 w =>
 N (xv (Instr.alloc 52 true (.tuple #[]))) w fun t7 w =>
 N (xu (storeAt 52 t7 t29)) w fun _ w =>
 M t30 fun t8 =>
 k (Env.p (Env.p e 7 t7) 8 t8) w)
def c13_3_s:=reg13 c13_3 c13_4 (fun N M G k e w =>
 M (e 3) fun t17 =>
 N (xv (fieldAt 50 (e 1) 1)) w fun t18 w =>
 N (xv (loadAt 9 t18)) w fun t19 w =>
 N (xv (fieldAt 50 (e 1) 2)) w fun t20 w =>
 N (xv (loadAt 48 t20)) w fun t21 w =>
 N (xcall (.func (.func 25) #[] #[]) [t17, t19, t21]) w fun t22 w =>
 M t22 fun t16 =>
 N (xv (Instr.extract t16 0)) w fun t23 w =>
 N (xv (Instr.extract t16 1)) w fun t24 w =>
 N (xv (Instr.extract t16 2)) w fun t25 w =>
 N (xv (Instr.alloc 31 true (.tuple #[]))) w fun t4 w =>
 N (xv (Instr.alloc 48 true (.tuple #[]))) w fun t5 w =>
 N (xu (storeAt 31 t4 t23)) w fun _ w =>
 N (xu (storeAt 48 t5 t24)) w fun _ w =>
 M t25 fun t6 =>
 k (Env.p (Env.p (Env.p e 4 t4) 5 t5) 6 t6) w)
def c13_2_s:=reg13 c13_2 c13_3 (fun N M G k e w =>
 M (.pointer none) fun t3 =>
 k (Env.p e 3 t3) w)
def c13_11_s:=reg13 c13_11 .ret (fun N M G k e w =>
 M (.bool false) fun t2 =>
 k (Env.p e 2 t2) w)
def c13_10_s:=cond13 c13_10 .skip 15 c13_11
def c13_9_s:=reg13 c13_9 c13_10 (fun N M G k e w =>
 N (xcall (.func (.func 14) #[] #[]) []) w fun t14 w =>
 N (xv (Op.unary .not t14)) w fun t15 w =>
 k (Env.p e 15 t15) w)
def c13_1_s:=seq13 c13_1 c13_2 c13_9
def c13_s:=reg13 c13 c13_1 (fun N M G k e w =>
 N (xv (Instr.box 50 (e 0))) w fun t1 w =>
 M (.bool false) fun t2 =>
 k (Env.p (Env.p e 1 t1) 2 t2) w)
theorem call13 {a0 : Value} {w : World} {R : Value → World → Prop} (h : W3 Tryz.prog 144 V13 c13 (retQ Tryz.prog [.tmp 2] R) (argE [a0]) w) : CallsN Tryz.prog 13 [a0] w R :=
 callsN_of_W3 (c := c13) (rs := [.tmp 2]) V13 Tryz.ntmps13 (by rw [Tryz.results13]) mixed Tryz.func13 (by kernel_rfl) (by kernel_rfl) (by kernel_rfl) (by kernel_rfl) (by simp) h
def w3t_13:=w3t Tryz.prog 144 V13
def hk13 := aI @c13_8_s <| aI @c13_7_s <| aI @c13_6_s <| aI @c13_5_s <| aI @c13_4_s <| aI @c13_3_s <| aI @c13_2_s <| aI @c13_11_s <| aI @c13_10_s <| aI @c13_9_s <| aI @c13_1_s <| aI @c13_s <| @w3t_13
-- K13: ↓hk13
/-! ### (*vouch/node.Node) . Squeeze -/
def V29 : Nat → Bool := fun i => [0, 2, 3, 4, 5, 8, 21].elem i
def cond29:=@s_cond Tryz.prog 47 V29
def drw29:=@s_drw Tryz.prog 47 V29
def reg29:=@s_reg Tryz.prog 47 V29
def seq29:=@s_seq Tryz.prog 47 V29
noncomputable def c29:Code:=(Tryz.f29.body.getD .skip)
noncomputable def c29_1:=cR c29
noncomputable def c29_2:=cR c29_1
noncomputable def c29_3:=cR c29_2
noncomputable def c29_4:=cR c29_3
noncomputable def c29_5:=cR c29_4
noncomputable def b29_7:List Row:=[(0, 0, 1, 24, true), (1, 1, 8388608, 25, true), (2, 3, 16777216, 26, true), (4, 7, 33554432, 27, true), (8, 15, 67108864, 28, true), (16, 31, 134217728, 29, true), (32, 63, 268435456, 30, true), (0, 0, 16, 31, true), (0, 0, 32, 32, true), (384, 384, 3221225472, 33, true), (512, 896, 4294967296, 34, true), (1024, 1920, 8589934592, 35, true), (2048, 3968, 17179869184, 36, true), (0, 0, 16, 37, true), (0, 0, 32, 38, true), (24576, 24576, 206158430208, 39, true), (32768, 57344, 274877906944, 40, true), (65536, 122880, 549755813888, 41, true), (131072, 253952, 1099511627776, 42, true), (266304, 524287, 2233919864832, 43, false)]
noncomputable def c29_6:=cR c29_5
noncomputable def c29_7:=cL c29_4
noncomputable def c29_8:=cR c29_7
noncomputable def c29_9:=cL c29_8
noncomputable def c29_10:=cL c29_1
noncomputable def c29_11:=cR c29_10
noncomputable def c29_12:=cL c29_11
def c29_6_s:=reg29 c29_6 .ret (fun N M G k e w =>
 M (e 4) fun t43 =>
 M (e 5) fun t44 =>
 N (xv (indexAt 41 t43 t44)) w fun t45 w =>
 N (xv (loadAt 52 t45)) w fun t46 w =>
 N (xu (storeAt 52 (e 2) t46)) w fun _ w =>
 M (.bool true) fun t3 =>
 k (Env.p e 3 t3) w)
def c29_5_s:=drw29 c29_5 c29_6 b29_7 20 (fun N T M G H Y k e w =>
 M (e 0) fun t23 =>
 T (FrX none w) (xnil t23) fun t24 =>
 T (FrX none w) (xv (fieldAt 92 t24 2)) fun t25 =>
 T (FrX (some []) w) (xv (loadAt 89 t25)) fun t26 =>
 T (FrX none w) (xnil t26) fun t27 =>
 T (FrX none w) (xv (fieldAt 118 t27 1)) fun t28 =>
 T (FrX (some []) w) (xv (loadAt 114 t28)) fun t29 =>
 M (e 4) fun t30 =>
 M (e 5) fun t31 =>
 T (FrX none w) (xv (indexAt 41 t30 t31)) fun t32 =>
 T (FrX none w) (xv (fieldAt 52 t32 0)) fun t33 =>
 T (FrX none w) (xv (fieldAt 34 t33 0)) fun t34 =>
 T (FrX (some []) w) (xv (loadAt 9 t34)) fun t35 =>
 M (e 4) fun t36 =>
 M (e 5) fun t37 =>
 T (FrX none w) (xv (indexAt 41 t36 t37)) fun t38 =>
 T (FrX none w) (xv (fieldAt 52 t38 0)) fun t39 =>
 T (FrX none w) (xv (fieldAt 34 t39 2)) fun t40 =>
 T (FrX (some []) w) (xv (loadAt 2 t40)) fun t41 =>
 N (xcall (.func (.func 89) #[] #[]) [t29, t35, t41]) w fun t42 w19 =>
 k e w19)
def c29_9_s:=reg29 c29_9 .ret (fun N M G k e w =>
 N (xv (Instr.build 52 ([]).toArray)) w fun t22 w =>
 N (xu (storeAt 52 (e 2) t22)) w fun _ w =>
 M (.bool false) fun t3 =>
 k (Env.p e 3 t3) w)
def c29_8_s:=cond29 c29_8 .skip 21 c29_9
def c29_7_s:=reg29 c29_7 c29_8 (fun N M G k e w =>
 M (e 5) fun t20 =>
 N (xv (xbin .lss 3 (.tmp 20) (.const (.int .i64 0)) t20 (.int .i64 0))) w fun t21 w =>
 k (Env.p e 21 t21) w)
def c29_4_s:=seq29 c29_4 c29_5 c29_7
def c29_3_s:=reg29 c29_3 c29_4 (fun N M G k e w =>
 M (e 4) fun t18 =>
 N (xcall (.func (.func 88) #[] #[]) [t18]) w fun t19 w =>
 M t19 fun t5 =>
 k (Env.p e 5 t5) w)
def c29_2_s:=reg29 c29_2 c29_3 (fun N M G k e w =>
 M (e 0) fun t10 =>
 N (xnil t10) w fun t11 w =>
 N (xv (fieldAt 92 t11 2)) w fun t12 w =>
 N (xv (loadAt 89 t12)) w fun t13 w =>
 N (xnil t13) w fun t14 w =>
 N (xv (fieldAt 118 t14 1)) w fun t15 w =>
 N (xv (loadAt 114 t15)) w fun t16 w =>
 N (xcall (.func (.func 68) #[] #[]) [t16]) w fun t17 w =>
 M t17 fun t4 =>
 k (Env.p e 4 t4) w)
def c29_12_s:=reg29 c29_12 .ret (fun N M G k e w =>
 N (xv (Instr.build 52 ([]).toArray)) w fun t9 w =>
 N (xu (storeAt 52 (e 2) t9)) w fun _ w =>
 M (.bool false) fun t3 =>
 k (Env.p e 3 t3) w)
def c29_11_s:=cond29 c29_11 .skip 8 c29_12
def c29_10_s:=reg29 c29_10 c29_11 (fun N M G k e w =>
 M (e 0) fun t6 =>
 N (xcall (.func (.func 47) #[] #[]) [t6]) w fun t7 w =>
 N (xv (Op.unary .not t7)) w fun t8 w =>
 k (Env.p e 8 t8) w)
def c29_1_s:=seq29 c29_1 c29_2 c29_10
def c29_s:=reg29 c29 c29_1 (fun N M G k e w =>
 N (xv (Instr.alloc 52 true (.tuple #[]))) w fun t2 w =>
 M (.bool false) fun t3 =>
 k (Env.p (Env.p e 2 t2) 3 t3) w)
theorem call29 {a0 : Value} {w : World} {R : Value → World → Prop} (h : W3 Tryz.prog 47 V29 c29 (retQ Tryz.prog [.cell 2 52, .tmp 3] R) (argE [a0]) w) : CallsN Tryz.prog 29 [a0] w R :=
 callsN_of_W3 (c := c29) (rs := [.cell 2 52, .tmp 3]) V29 Tryz.ntmps29 (by rw [Tryz.results29]) mixed Tryz.func29 (by kernel_rfl) (by kernel_rfl) (by kernel_rfl) (by kernel_rfl) (by simp) h
def w3t_29:=w3t Tryz.prog 47 V29
def hk29 := aI @c29_6_s <| aI @c29_5_s <| aI @c29_9_s <| aI @c29_8_s <| aI @c29_7_s <| aI @c29_4_s <| aI @c29_3_s <| aI @c29_2_s <| aI @c29_12_s <| aI @c29_11_s <| aI @c29_10_s <| aI @c29_1_s <| aI @c29_s <| @w3t_29
-- K29: ↓hk29
/-! ### (*vouch/node.Node) . Wants -/
def V39 : Nat → Bool := fun i => [0, 2, 3, 4, 5, 9].elem i
def block39:=@s_block Tryz.prog 27 V39
def cond39:=@s_cond Tryz.prog 27 V39
def reg39:=@s_reg Tryz.prog 27 V39
def seq39:=@s_seq Tryz.prog 27 V39
noncomputable def c39:Code:=(Tryz.f39.body.getD .skip)
noncomputable def c39_1:=cR c39
noncomputable def c39_2:=cR c39_1
noncomputable def c39_3:=cL c39_1
noncomputable def c39_4:=cL c39_3
noncomputable def c39_5:=cR c39_4
noncomputable def c39_6:=cL c39_5
noncomputable def c39_7:=cR c39_5
noncomputable def c39_8:=cR c39_7
noncomputable def c39_9:=cL c39_8
def c39_2_s:=reg39 c39_2 .ret (fun N M G k e w =>
 M (e 0) fun t18 =>
 N (xnil t18) w fun t19 w =>
 N (xv (fieldAt 92 t19 2)) w fun t20 w =>
 N (xv (loadAt 89 t20)) w fun t21 w =>
 N (xnil t21) w fun t22 w =>
 N (xv (fieldAt 118 t22 2)) w fun t23 w =>
 N (xv (loadAt 115 t23)) w fun t24 w =>
 N (xcall (.func (.func 70) #[] #[]) [t24]) w fun t25 w =>
 N (xv (xbin .add 2 (.tmp 25) (.const (.int .i64 1)) t25 (.int .i64 1))) w fun t26 w =>
 M (.bool false) fun t2 =>
 M t26 fun t3 =>
 M (.bool true) fun t4 =>
 k (Env.p (Env.p (Env.p e 2 t2) 3 t3) 4 t4) w)
def c39_6_s:=reg39 c39_6 .ret (fun N M G k e w =>
 M (.bool false) fun t2 =>
 M (.int .i64 0) fun t3 =>
 M (.bool false) fun t4 =>
 k (Env.p (Env.p (Env.p e 2 t2) 3 t3) 4 t4) w)
def c39_9_s:=reg39 c39_9 .ret (fun N M G k e w =>
 M (.bool true) fun t2 =>
 M (.int .i64 0) fun t3 =>
 M (.bool true) fun t4 =>
 k (Env.p (Env.p (Env.p e 2 t2) 3 t3) 4 t4) w)
def c39_8_s:=cond39 c39_8 .skip 9 c39_9
def c39_7_s:=reg39 c39_7 c39_8 (fun N M G k e w =>
 M (e 0) fun t10 =>
 N (xnil t10) w fun t11 w =>
 N (xv (fieldAt 92 t11 2)) w fun t12 w =>
 N (xv (loadAt 89 t12)) w fun t13 w =>
 N (xnil t13) w fun t14 w =>
 N (xv (fieldAt 118 t14 0)) w fun t15 w =>
 N (xv (loadAt 4 t15)) w fun t16 w =>
 N (xv (Op.unary .not t16)) w fun t17 w =>
 M t17 fun t9 =>
 k (Env.p e 9 t9) w)
def c39_5_s:=cond39 c39_5 c39_7 5 c39_6
def c39_4_s:=reg39 c39_4 c39_5 (fun N M G k e w =>
 M (e 0) fun t6 =>
 N (xcall (.func (.func 47) #[] #[]) [t6]) w fun t7 w =>
 N (xv (Op.unary .not t7)) w fun t8 w =>
 M t8 fun t5 =>
 k (Env.p e 5 t5) w)
def c39_3_s:=block39 c39_3 c39_4 0
def c39_1_s:=seq39 c39_1 c39_2 c39_3
def c39_s:=reg39 c39 c39_1 (fun N M G k e w =>
 M (.bool false) fun t2 =>
 M (.int .i64 0) fun t3 =>
 M (.bool false) fun t4 =>
 k (Env.p (Env.p (Env.p e 2 t2) 3 t3) 4 t4) w)
theorem call39 {a0 : Value} {w : World} {R : Value → World → Prop} (h : W3 Tryz.prog 27 V39 c39 (retQ Tryz.prog [.tmp 2, .tmp 3, .tmp 4] R) (argE [a0]) w) : CallsN Tryz.prog 39 [a0] w R :=
 callsN_of_W3 (c := c39) (rs := [.tmp 2, .tmp 3, .tmp 4]) V39 Tryz.ntmps39 (by rw [Tryz.results39]) mixed Tryz.func39 (by kernel_rfl) (by kernel_rfl) (by kernel_rfl) (by kernel_rfl) (by simp) h
def w3t_39:=w3t Tryz.prog 27 V39
def hk39 := aI @c39_2_s <| aI @c39_6_s <| aI @c39_9_s <| aI @c39_8_s <| aI @c39_7_s <| aI @c39_5_s <| aI @c39_4_s <| aI @c39_3_s <| aI @c39_1_s <| aI @c39_s <| @w3t_39
-- K39: ↓hk39
/-! ### (*vouch/node.Node) . Known -/
def V37 : Nat → Bool := fun i => [0, 1, 4, 5, 7, 10, 19, 20, 21, 22].elem i
def block37:=@s_block Tryz.prog 40 V37
def cond37:=@s_cond Tryz.prog 40 V37
def drwE37:=@s_drwE Tryz.prog 40 V37
def loop37:=@s_loop Tryz.prog 40 V37
def reg37:=@s_reg Tryz.prog 40 V37
def rend37:=@s_rend Tryz.prog 40 V37
def seq37:=@s_seq Tryz.prog 40 V37
noncomputable def c37:Code:=(Tryz.f37.body.getD .skip)
noncomputable def c37_1:=cR c37
noncomputable def c37_2:=cR c37_1
noncomputable def c37_3:=cR c37_2
noncomputable def c37_4:=cL c37_2
noncomputable def c37_5:=cR c37_4
noncomputable def c37_6:=cL c37_5
noncomputable def c37_7:=cR c37_6
noncomputable def c37_8:=cL c37_7
noncomputable def c37_9:=cL c37_8
noncomputable def c37_10:=cR c37_9
noncomputable def c37_11:=cR c37_10
noncomputable def c37_12:=cR c37_11
noncomputable def c37_13:=cL c37_11
noncomputable def c37_14:=cL c37_13
noncomputable def c37_15:=cR c37_14
noncomputable def b37_6:List Row:=[(0, 0, 32, 26, true), (0, 0, 128, 27, true), (2, 2, 67108864, 28, true), (0, 0, 1, 29, true), (8, 8, 268435456, 30, true), (16, 24, 536870912, 31, true), (32, 56, 1073741824, 32, true), (64, 120, 2147483648, 33, true), (128, 248, 4294967296, 34, true), (256, 504, 8589934592, 35, true), (512, 1016, 17179869184, 36, false), (1028, 2046, 34493956096, 37, false), (2049, 4095, 68753031168, 38, false)]
noncomputable def c37_16:=cL c37_10
def c37_3_s:=reg37 c37_3 .ret (fun N M G k e w =>
 M (e 5) fun t39 =>
 M t39 fun t4 =>
 k (Env.p e 4 t4) w)
def c37_12_s:=rend37 c37_12 (fun N M G k e w =>
 N (xv (xbin .add 3 (.tmp 21) (.const (.int .i64 1)) (e 21) (.int .i64 1))) w fun t38 w =>
 M t38 fun t21 =>
 k (Env.p e 21 t21) w)
def c37_15_s:=drwE37 c37_15 b37_6 13 (fun N T M G H Y k e w =>
 M (e 5) fun t25 =>
 T (FrX none w) (xv (fieldAt 52 (e 7) 0)) fun t26 =>
 T (FrX (some []) w) (xv (loadAt 34 t26)) fun t27 =>
 M (e 0) fun t28 =>
 T (FrX none w) (xnil t28) fun t29 =>
 T (FrX none w) (xv (fieldAt 92 t29 2)) fun t30 =>
 T (FrX (some []) w) (xv (loadAt 89 t30)) fun t31 =>
 T (FrX none w) (xnil t31) fun t32 =>
 T (FrX none w) (xv (fieldAt 118 t32 2)) fun t33 =>
 T (FrX (some []) w) (xv (loadAt 115 t33)) fun t34 =>
 N (xcall (.func (.func 70) #[] #[]) [t34]) w fun t35 w10 =>
 Y true (xv (loadAt 34 t26)) t27 w w10 ∧ (N (xcall (.func (.func 82) #[] #[]) [t27, t35]) w10 fun t36 w11 =>
 N (xcall (.func (.func 101) #[] #[]) [t25, t36]) w11 fun t37 w12 =>
 k e w12))
def c37_14_s:=reg37 c37_14 c37_15 (fun N M G k e w =>
 N (xv (indexAt 41 (e 19) (e 21))) w fun t23 w =>
 N (xv (loadAt 52 t23)) w fun t24 w =>
 N (xv (Instr.alloc 52 true (.tuple #[]))) w fun t7 w =>
 N (xu (storeAt 52 t7 t24)) w fun _ w =>
 k (Env.p e 7 t7) w)
def c37_13_s:=block37 c37_13 c37_14 1
def c37_11_s:=seq37 c37_11 c37_12 c37_13
def c37_16_s:=cond37 c37_16 (.exit 0) 22 .skip
def c37_10_s:=seq37 c37_10 c37_11 c37_16
def c37_9_s:=reg37 c37_9 c37_10 (fun N M G k e w =>
 N (xv (xbin .lss 3 (.tmp 21) (.tmp 20) (e 21) (e 20))) w fun t22 w =>
 k (Env.p e 22 t22) w)
def c37_8_s:=loop37 c37_8 c37_9
def c37_7_s:=block37 c37_7 c37_8 0
def c37_6_s:=reg37 c37_6 c37_7 (fun N M G k e w =>
 M (e 0) fun t11 =>
 N (xnil t11) w fun t12 w =>
 N (xv (fieldAt 92 t12 2)) w fun t13 w =>
 N (xv (loadAt 89 t13)) w fun t14 w =>
 N (xnil t14) w fun t15 w =>
 N (xv (fieldAt 118 t15 1)) w fun t16 w =>
 N (xv (loadAt 114 t16)) w fun t17 w =>
 M (e 1) fun t18 =>
 N (xcall (.func (.func 65) #[] #[]) [t17, t18]) w fun t19 w =>
 N (builtin Builtin.len #[41] 3 ([false]).toArray ([t19]).toArray) w fun t20 w =>
 M (.int .i64 0) fun t21 =>
 k (Env.p (Env.p (Env.p e 19 t19) 20 t20) 21 t21) w)
def c37_5_s:=cond37 c37_5 .skip 10 c37_6
def c37_4_s:=reg37 c37_4 c37_5 (fun N M G k e w =>
 M (e 0) fun t9 =>
 N (xcall (.func (.func 47) #[] #[]) [t9]) w fun t10 w =>
 k (Env.p e 10 t10) w)
def c37_2_s:=seq37 c37_2 c37_3 c37_4
def c37_1_s:=reg37 c37_1 c37_2 (fun N M G k e w =>
 N (xcall (.func (.func 100) #[] #[]) [(.slice none 0 0)]) w fun t8 w =>
 M t8 fun t5 =>
 k (Env.p e 5 t5) w)
def c37_s:=reg37 c37 c37_1 (fun N M G k e w =>
 M (.pointer none) fun t4 =>
 k (Env.p e 4 t4) w)
theorem call37 {a0 a1 : Value} {w : World} {R : Value → World → Prop} (h : W3 Tryz.prog 40 V37 c37 (retQ Tryz.prog [.tmp 4] R) (argE [a0, a1]) w) : CallsN Tryz.prog 37 [a0, a1] w R :=
 callsN_of_W3 (c := c37) (rs := [.tmp 4]) V37 Tryz.ntmps37 (by rw [Tryz.results37]) mixed Tryz.func37 (by kernel_rfl) (by kernel_rfl) (by kernel_rfl) (by kernel_rfl) (by simp) h
def w3t_37:=w3t Tryz.prog 40 V37
def hk37 := aI @c37_3_s <| aI @c37_12_s <| aI @c37_15_s <| aI @c37_14_s <| aI @c37_13_s <| aI @c37_11_s <| aI @c37_16_s <| aI @c37_10_s <| aI @c37_9_s <| aI @c37_8_s <| aI @c37_7_s <| aI @c37_6_s <| aI @c37_5_s <| aI @c37_4_s <| aI @c37_2_s <| aI @c37_1_s <| aI @c37_s <| @w3t_37
-- K37: ↓hk37
/-! ### (*vouch/node.Node) . Start -/
def V27 : Nat → Bool := fun i => [0, 1, 2, 6, 34].elem i
def cond27:=@s_cond Tryz.prog 63 V27
def drw27:=@s_drw Tryz.prog 63 V27
def reg27:=@s_reg Tryz.prog 63 V27
def seq27:=@s_seq Tryz.prog 63 V27
noncomputable def c27:Code:=(Tryz.f27.body.getD .skip)
noncomputable def c27_1:=cR c27
noncomputable def c27_2:=cR c27_1
noncomputable def c27_3:=cR c27_2
noncomputable def c27_4:=cR c27_3
noncomputable def b27_5:List Row:=[(0, 0, 1, 51, true), (1, 1, 1125899906842624, 52, true), (2, 3, 2251799813685248, 53, true), (4, 7, 4503599627370496, 54, true), (0, 0, 1, 55, true), (16, 16, 18014398509481984, 56, true), (32, 48, 36028797018963968, 57, true), (64, 112, 72057594037927936, 58, true), (128, 240, 144115188075855872, 59, true), (0, 0, 4, 60, true), (768, 1008, 864691128455135232, 61, false), (2047, 2047, 9007199254740992, 62, true), (4095, 4095, 2305843009213693952, 63, true), (6143, 8191, 5764607523034234880, 0, false)]
noncomputable def c27_5:=cR c27_4
noncomputable def c27_6:=cL c27_1
noncomputable def c27_7:=cR c27_6
noncomputable def c27_8:=cL c27_7
def c27_5_s:=reg27 c27_5 .ret (fun N M G k e w =>
 M (.bool true) fun t6 =>
 k (Env.p e 6 t6) w)
def c27_4_s:=drw27 c27_4 c27_5 b27_5 14 (fun N T M G H Y k e w =>
 M (e 0) fun t50 =>
 T (FrX none w) (xnil t50) fun t51 =>
 T (FrX none w) (xv (fieldAt 92 t51 2)) fun t52 =>
 T (FrX (some []) w) (xv (loadAt 89 t52)) fun t53 =>
 M (e 0) fun t54 =>
 T (FrX none w) (xnil t54) fun t55 =>
 T (FrX none w) (xv (fieldAt 92 t55 0)) fun t56 =>
 T (FrX none w) (xv (fieldAt 25 t56 4)) fun t57 =>
 T (FrX (some []) w) (xv (loadAt 3 t57)) fun t58 =>
 M (e 2) fun t59 =>
 N (xcall (.func (.func 85) #[] #[]) [t58, t59]) w fun t60 w10 =>
 Y true (xv (loadAt 89 t52)) t53 w w10 ∧ (T (FrX none w10) (xnil t53) fun t61 =>
 T (FrX none w10) (xv (fieldAt 118 t61 3)) fun t62 =>
 N (xu (storeAt 116 t62 t60)) w10 fun _ w13 =>
 k e w13))
def c27_3_s:=reg27 c27_3 c27_4 (fun N M G k e w =>
 M (e 0) fun t41 =>
 N (xnil t41) w fun t42 w =>
 N (xv (fieldAt 92 t42 2)) w fun t43 w =>
 N (xv (loadAt 89 t43)) w fun t44 w =>
 N (xnil t44) w fun t45 w =>
 N (xv (fieldAt 118 t45 2)) w fun t46 w =>
 N (xv (loadAt 115 t46)) w fun t47 w =>
 M (e 2) fun t48 =>
 N (xcall (.func (.func 84) #[] #[]) [t47, t48]) w fun t49 w =>
 k e w)
def c27_2_s:=reg27 c27_2 c27_3 (fun N M G k e w =>
 M (e 0) fun t35 =>
 N (xnil t35) w fun t36 w =>
 N (xv (fieldAt 92 t36 2)) w fun t37 w =>
 N (xv (loadAt 89 t37)) w fun t38 w =>
 N (xnil t38) w fun t39 w =>
 N (xv (fieldAt 118 t39 0)) w fun t40 w =>
 N (xu (storeAt 4 t40 (.bool true))) w fun _ w =>
 k e w)
def c27_8_s:=reg27 c27_8 .ret (fun N M G k e w =>
 M (.bool false) fun t6 =>
 k (Env.p e 6 t6) w)
def c27_7_s:=cond27 c27_7 .skip 34 c27_8
def c27_6_s:=reg27 c27_6 c27_7 (fun N M G k e w =>
 M (e 0) fun t7 =>
 N (xcall (.func (.func 47) #[] #[]) [t7]) w fun t8 w =>
 N (xv (Op.unary .not t8)) w fun t9 w =>
 M t9 fun t10 =>
 G (isB t10 false) (fun K => M (e 0) fun v => K v w) (fun t11 w =>
 G (isB t10 false) (fun K => N (xnil t11) w K) (fun t12 w =>
 G (isB t10 false) (fun K => N (xv (fieldAt 92 t12 2)) w K) (fun t13 w =>
 G (isB t10 false) (fun K => N (xv (loadAt 89 t13)) w K) (fun t14 w =>
 G (isB t10 false) (fun K => N (xnil t14) w K) (fun t15 w =>
 G (isB t10 false) (fun K => N (xv (fieldAt 118 t15 0)) w K) (fun t16 w =>
 G (isB t10 false) (fun K => N (xv (loadAt 4 t16)) w K) (fun t17 w =>
 N (xpick t10 (.bool true) t17) w fun t18 w =>
 M t18 fun t19 =>
 G (isB t19 false) (fun K => M (e 1) fun v => K v w) (fun t20 w =>
 G (isB t19 false) (fun K => M (e 0) fun v => K v w) (fun t21 w =>
 G (isB t19 false) (fun K => N (xnil t21) w K) (fun t22 w =>
 G (isB t19 false) (fun K => N (xv (fieldAt 92 t22 1)) w K) (fun t23 w =>
 G (isB t19 false) (fun K => N (xv (loadAt 3 t23)) w K) (fun t24 w =>
 G (isB t19 false) (fun K => N (xv (xbin .neq 3 (.tmp 20) (.tmp 24) t20 t24)) w K) (fun t25 w =>
 N (xpick t19 (.bool true) t25) w fun t26 w =>
 M t26 fun t27 =>
 G (isB t27 false) (fun K => M (e 2) fun v => K v w) (fun t28 w =>
 G (isB t27 false) (fun K => N (xv (xbin .lss 2 (.tmp 28) (.const (.int .i64 0)) t28 (.int .i64 0))) w K) (fun t29 w =>
 N (xpick t27 (.bool true) t29) w fun t30 w =>
 M t30 fun t31 =>
 G (isB t31 false) (fun K => M (e 2) fun v => K v w) (fun t32 w =>
 G (isB t31 false) (fun K => N (xv (xbin .gtr 2 (.tmp 32) (.const (.int .i64 1099511627776)) t32 (.int .i64 1099511627776))) w K) (fun t33 w =>
 N (xpick t31 (.bool true) t33) w fun t34 w =>
 k (Env.p e 34 t34) w) w) w) w) w) w) w) w) w) w) w) w) w) w) w) w) w) w)
def c27_1_s:=seq27 c27_1 c27_2 c27_6
def c27_s:=reg27 c27 c27_1 (fun N M G k e w =>
 M (.bool false) fun t6 =>
 k (Env.p e 6 t6) w)
theorem call27 {a0 a1 a2 : Value} {w : World} {R : Value → World → Prop} (h : W3 Tryz.prog 63 V27 c27 (retQ Tryz.prog [.tmp 6] R) (argE [a0, a1, a2]) w) : CallsN Tryz.prog 27 [a0, a1, a2] w R :=
 callsN_of_W3 (c := c27) (rs := [.tmp 6]) V27 Tryz.ntmps27 (by rw [Tryz.results27]) mixed Tryz.func27 (by kernel_rfl) (by kernel_rfl) (by kernel_rfl) (by kernel_rfl) (by simp) h
def w3t_27:=w3t Tryz.prog 63 V27
def hk27 := aI @c27_5_s <| aI @c27_4_s <| aI @c27_3_s <| aI @c27_2_s <| aI @c27_8_s <| aI @c27_7_s <| aI @c27_6_s <| aI @c27_1_s <| aI @c27_s <| @w3t_27
-- K27: ↓hk27
/-! ### (*vouch/node.Node) . Crash -/
def V40 : Nat → Bool := fun i => [0, 2, 5].elem i
def cond40:=@s_cond Tryz.prog 9 V40
def reg40:=@s_reg Tryz.prog 9 V40
def seq40:=@s_seq Tryz.prog 9 V40
noncomputable def c40:Code:=(Tryz.f40.body.getD .skip)
noncomputable def c40_1:=cR c40
noncomputable def c40_2:=cR c40_1
noncomputable def c40_3:=cR c40_2
noncomputable def c40_4:=cL c40_1
noncomputable def c40_5:=cR c40_4
noncomputable def c40_6:=cL c40_5
def c40_3_s:=reg40 c40_3 .ret (fun N M G k e w =>
 M (.bool true) fun t2 =>
 k (Env.p e 2 t2) w)
def c40_2_s:=reg40 c40_2 c40_3 (fun N M G k e w =>
 M (e 0) fun t6 =>
 N (xnil t6) w fun t7 w =>
 N (xv (fieldAt 92 t7 2)) w fun t8 w =>
 N (xu (storeAt 89 t8 (.pointer none))) w fun _ w =>
 k e w)
def c40_6_s:=reg40 c40_6 .ret (fun N M G k e w =>
 M (.bool false) fun t2 =>
 k (Env.p e 2 t2) w)
def c40_5_s:=cond40 c40_5 .skip 5 c40_6
def c40_4_s:=reg40 c40_4 c40_5 (fun N M G k e w =>
 M (e 0) fun t3 =>
 N (xcall (.func (.func 47) #[] #[]) [t3]) w fun t4 w =>
 N (xv (Op.unary .not t4)) w fun t5 w =>
 k (Env.p e 5 t5) w)
def c40_1_s:=seq40 c40_1 c40_2 c40_4
def c40_s:=reg40 c40 c40_1 (fun N M G k e w =>
 M (.bool false) fun t2 =>
 k (Env.p e 2 t2) w)
theorem call40 {a0 : Value} {w : World} {R : Value → World → Prop} (h : W3 Tryz.prog 9 V40 c40 (retQ Tryz.prog [.tmp 2] R) (argE [a0]) w) : CallsN Tryz.prog 40 [a0] w R :=
 callsN_of_W3 (c := c40) (rs := [.tmp 2]) V40 Tryz.ntmps40 (by rw [Tryz.results40]) mixed Tryz.func40 (by kernel_rfl) (by kernel_rfl) (by kernel_rfl) (by kernel_rfl) (by simp) h
def w3t_40:=w3t Tryz.prog 9 V40
def hk40 := aI @c40_3_s <| aI @c40_2_s <| aI @c40_6_s <| aI @c40_5_s <| aI @c40_4_s <| aI @c40_1_s <| aI @c40_s <| @w3t_40
-- K40: ↓hk40
/-! ### (*vouch/node.Node) . Restart -/
def V41 : Nat → Bool := fun i => [0, 2, 8].elem i
def cond41:=@s_cond Tryz.prog 24 V41
def reg41:=@s_reg Tryz.prog 24 V41
def seq41:=@s_seq Tryz.prog 24 V41
noncomputable def c41:Code:=(Tryz.f41.body.getD .skip)
noncomputable def c41_1:=cR c41
noncomputable def c41_2:=cR c41_1
noncomputable def c41_3:=cR c41_2
noncomputable def c41_4:=cR c41_3
noncomputable def c41_5:=cL c41_1
noncomputable def c41_6:=cR c41_5
noncomputable def c41_7:=cL c41_6
def c41_4_s:=reg41 c41_4 .ret (fun N M G k e w =>
 M (.bool true) fun t2 =>
 k (Env.p e 2 t2) w)
def c41_3_s:=reg41 c41_3 c41_4 (fun N M G k e w =>
 M (e 0) fun t16 =>
 M (e 0) fun t17 =>
 N (xnil t17) w fun t18 w =>
 N (xv (fieldAt 92 t18 0)) w fun t19 w =>
 N (xv (loadAt 25 t19)) w fun t20 w =>
 N (xcall (.func (.func 44) #[] #[]) [t20, (.bool false), (.int .i64 0)]) w fun t21 w =>
 N (xnil t16) w fun t22 w =>
 N (xv (fieldAt 92 t22 2)) w fun t23 w =>
 N (xu (storeAt 89 t23 t21)) w fun _ w =>
 k e w)
def c41_2_s:=reg41 c41_2 c41_3 (fun N M G k e w =>
 M (e 0) fun t9 =>
 N (xnil t9) w fun t10 w =>
 N (xv (fieldAt 92 t10 1)) w fun t11 w =>
 N (xv (loadAt 3 t11)) w fun t12 w =>
 N (xv (xbin .add 3 (.tmp 12) (.const (.int .i64 1)) t12 (.int .i64 1))) w fun t13 w =>
 N (xnil t9) w fun t14 w =>
 N (xv (fieldAt 92 t14 1)) w fun t15 w =>
 N (xu (storeAt 3 t15 t13)) w fun _ w =>
 k e w)
def c41_7_s:=reg41 c41_7 .ret (fun N M G k e w =>
 M (.bool false) fun t2 =>
 k (Env.p e 2 t2) w)
def c41_6_s:=cond41 c41_6 .skip 8 c41_7
def c41_5_s:=reg41 c41_5 c41_6 (fun N M G k e w =>
 M (e 0) fun t3 =>
 N (xv (xbin .eql 26 (.tmp 3) (.const (.pointer none)) t3 (.pointer none))) w fun t4 w =>
 M t4 fun t5 =>
 G (isB t5 false) (fun K => M (e 0) fun v => K v w) (fun t6 w =>
 G (isB t5 false) (fun K => N (xcall (.func (.func 47) #[] #[]) [t6]) w K) (fun t7 w =>
 N (xpick t5 (.bool true) t7) w fun t8 w =>
 k (Env.p e 8 t8) w) w) w)
def c41_1_s:=seq41 c41_1 c41_2 c41_5
def c41_s:=reg41 c41 c41_1 (fun N M G k e w =>
 M (.bool false) fun t2 =>
 k (Env.p e 2 t2) w)
theorem call41 {a0 : Value} {w : World} {R : Value → World → Prop} (h : W3 Tryz.prog 24 V41 c41 (retQ Tryz.prog [.tmp 2] R) (argE [a0]) w) : CallsN Tryz.prog 41 [a0] w R :=
 callsN_of_W3 (c := c41) (rs := [.tmp 2]) V41 Tryz.ntmps41 (by rw [Tryz.results41]) mixed Tryz.func41 (by kernel_rfl) (by kernel_rfl) (by kernel_rfl) (by kernel_rfl) (by simp) h
def w3t_41:=w3t Tryz.prog 24 V41
def hk41 := aI @c41_4_s <| aI @c41_3_s <| aI @c41_2_s <| aI @c41_7_s <| aI @c41_6_s <| aI @c41_5_s <| aI @c41_1_s <| aI @c41_s <| @w3t_41
-- K41: ↓hk41
/-! ### (*vouch/node.Node) . Clone -/
def V33 : Nat → Bool := fun i => [0, 2, 3, 4, 6, 18].elem i
def cond33:=@s_cond Tryz.prog 41 V33
def drw33:=@s_drw Tryz.prog 41 V33
def reg33:=@s_reg Tryz.prog 41 V33
def rend33:=@s_rend Tryz.prog 41 V33
def seq33:=@s_seq Tryz.prog 41 V33
noncomputable def c33:Code:=(Tryz.f33.body.getD .skip)
noncomputable def c33_1:=cR c33
noncomputable def c33_2:=cR c33_1
noncomputable def b33_3:List Row:=[(0, 0, 1, 8, true), (1, 1, 128, 9, true), (2, 3, 256, 10, true), (4, 7, 512, 11, true), (0, 0, 1, 12, true), (16, 16, 2048, 13, true), (32, 48, 4096, 14, true), (64, 112, 8192, 15, true), (136, 255, 17408, 16, true), (256, 511, 32768, 17, false), (1023, 1023, 65536, 4, true)]
noncomputable def c33_3:=cR c33_2
noncomputable def c33_4:=cR c33_3
noncomputable def c33_5:=cL c33_3
noncomputable def c33_6:=cR c33_5
noncomputable def c33_7:=cL c33_6
noncomputable def c33_8:=cR c33_7
noncomputable def b33_6:List Row:=[(0, 0, 16, 26, true), (1, 1, 33554432, 27, true), (2, 3, 67108864, 28, false), (0, 0, 16, 29, true), (8, 8, 268435456, 30, true), (20, 31, 536870912, 31, false), (0, 0, 16, 32, true), (64, 64, 2147483648, 33, true), (160, 255, 4294967296, 34, false), (439, 511, 16, 35, true), (951, 1023, 17314086912, 0, false), (1983, 2047, 16, 36, true), (4031, 4095, 35433480192, 0, false), (8191, 8191, 16, 37, true), (16383, 16383, 77309411328, 0, false)]
noncomputable def c33_9:=cR c33_8
noncomputable def c33_10:=cL c33_1
noncomputable def c33_11:=cR c33_10
noncomputable def c33_12:=cL c33_11
def c33_4_s:=reg33 c33_4 .ret (fun N M G k e w =>
 M (e 3) fun t40 =>
 M t40 fun t2 =>
 k (Env.p e 2 t2) w)
def c33_9_s:=rend33 c33_9 (fun N M G k e w =>
 M (e 3) fun t37 =>
 N (xnil t37) w fun t38 w =>
 N (xv (fieldAt 92 t38 2)) w fun t39 w =>
 N (xu (storeAt 89 t39 (e 4))) w fun _ w =>
 k e w)
def c33_8_s:=drw33 c33_8 c33_9 b33_6 15 (fun N T M G H Y k e w =>
 T (FrX none w) (xv (fieldAt 118 (e 4) 1)) fun t25 =>
 T (FrX (some []) w) (xv (loadAt 114 t25)) fun t26 =>
 T (FrX none w) (xv (fieldAt 118 (e 4) 2)) fun t28 =>
 T (FrX (some []) w) (xv (loadAt 115 t28)) fun t29 =>
 T (FrX none w) (xv (fieldAt 118 (e 4) 3)) fun t31 =>
 T (FrX (some []) w) (xv (loadAt 116 t31)) fun t32 =>
 N (xcall (.func (.func 96) #[] #[]) [t26]) w fun t27 w2 =>
 Y true (xv (loadAt 116 t31)) t32 w w2 ∧ (Y true (xv (loadAt 115 t28)) t29 w w2 ∧ (N (xcall (.func (.func 97) #[] #[]) [t29]) w2 fun t30 w5 =>
 Y true (xv (loadAt 116 t31)) t32 w w5 ∧ (N (xcall (.func (.func 98) #[] #[]) [t32]) w5 fun t33 w8 =>
 T (FrX none w8) (xv (fieldAt 118 (e 4) 1)) fun t34 =>
 N (xu (storeAt 114 t34 t27)) w8 fun _ w10 =>
 T (FrX none w10) (xv (fieldAt 118 (e 4) 2)) fun t35 =>
 N (xu (storeAt 115 t35 t30)) w10 fun _ w12 =>
 T (FrX none w12) (xv (fieldAt 118 (e 4) 3)) fun t36 =>
 N (xu (storeAt 116 t36 t33)) w12 fun _ w14 =>
 k e w14))))
def c33_7_s:=reg33 c33_7 c33_8 (fun N M G k e w =>
 M (e 0) fun t19 =>
 N (xnil t19) w fun t20 w =>
 N (xv (fieldAt 92 t20 2)) w fun t21 w =>
 N (xv (loadAt 89 t21)) w fun t22 w =>
 N (xnil t22) w fun t23 w =>
 N (xv (loadAt 118 t23)) w fun t24 w =>
 N (xv (Instr.alloc 118 true (.tuple #[]))) w fun t4 w =>
 N (xu (storeAt 118 t4 t24)) w fun _ w =>
 k (Env.p e 4 t4) w)
def c33_6_s:=cond33 c33_6 .skip 18 c33_7
def c33_5_s:=reg33 c33_5 c33_6 (fun N M G k e w =>
 M (e 0) fun t17 =>
 N (xcall (.func (.func 47) #[] #[]) [t17]) w fun t18 w =>
 k (Env.p e 18 t18) w)
def c33_3_s:=seq33 c33_3 c33_4 c33_5
def c33_2_s:=drw33 c33_2 c33_3 b33_3 11 (fun N T M G H Y k e w =>
 M (e 0) fun t7 =>
 T (FrX none w) (xnil t7) fun t8 =>
 T (FrX none w) (xv (fieldAt 92 t8 0)) fun t9 =>
 T (FrX (some []) w) (xv (loadAt 25 t9)) fun t10 =>
 M (e 0) fun t11 =>
 T (FrX none w) (xnil t11) fun t12 =>
 T (FrX none w) (xv (fieldAt 92 t12 1)) fun t13 =>
 T (FrX (some []) w) (xv (loadAt 3 t13)) fun t14 =>
 T (FrX none w) (xv (Instr.build 92 ([(0, t10), (1, t14)]).toArray)) fun t15 =>
 N (xv (Instr.box 92 t15)) w fun t16 w9 =>
 M t16 fun t3 =>
 k (Env.p e 3 t3) w9)
def c33_12_s:=reg33 c33_12 .ret (fun N M G k e w =>
 M (.pointer none) fun t2 =>
 k (Env.p e 2 t2) w)
def c33_11_s:=cond33 c33_11 .skip 6 c33_12
def c33_10_s:=reg33 c33_10 c33_11 (fun N M G k e w =>
 M (e 0) fun t5 =>
 N (xv (xbin .eql 26 (.tmp 5) (.const (.pointer none)) t5 (.pointer none))) w fun t6 w =>
 k (Env.p e 6 t6) w)
def c33_1_s:=seq33 c33_1 c33_2 c33_10
def c33_s:=reg33 c33 c33_1 (fun N M G k e w =>
 M (.pointer none) fun t2 =>
 k (Env.p e 2 t2) w)
theorem call33 {a0 : Value} {w : World} {R : Value → World → Prop} (h : W3 Tryz.prog 41 V33 c33 (retQ Tryz.prog [.tmp 2] R) (argE [a0]) w) : CallsN Tryz.prog 33 [a0] w R :=
 callsN_of_W3 (c := c33) (rs := [.tmp 2]) V33 Tryz.ntmps33 (by rw [Tryz.results33]) mixed Tryz.func33 (by kernel_rfl) (by kernel_rfl) (by kernel_rfl) (by kernel_rfl) (by simp) h
def w3t_33:=w3t Tryz.prog 41 V33
def hk33 := aI @c33_4_s <| aI @c33_9_s <| aI @c33_8_s <| aI @c33_7_s <| aI @c33_6_s <| aI @c33_5_s <| aI @c33_3_s <| aI @c33_2_s <| aI @c33_12_s <| aI @c33_11_s <| aI @c33_10_s <| aI @c33_1_s <| aI @c33_s <| @w3t_33
-- K33: ↓hk33
/-! ### vouch/cover.New[int64] -/
def V100 : Nat → Bool := fun i => [0, 2, 3, 5, 8, 9, 10, 11].elem i
def block100:=@s_block Tryz.prog 19 V100
def cond100:=@s_cond Tryz.prog 19 V100
def loop100:=@s_loop Tryz.prog 19 V100
def reg100:=@s_reg Tryz.prog 19 V100
def rend100:=@s_rend Tryz.prog 19 V100
def seq100:=@s_seq Tryz.prog 19 V100
noncomputable def c100:Code:=(Tryz.f100.body.getD .skip)
noncomputable def c100_1:=cR c100
noncomputable def c100_2:=cR c100_1
noncomputable def c100_3:=cR c100_2
noncomputable def c100_4:=cL c100_2
noncomputable def c100_5:=cR c100_4
noncomputable def c100_6:=cL c100_5
noncomputable def c100_7:=cL c100_6
noncomputable def c100_8:=cR c100_7
noncomputable def c100_9:=cR c100_8
noncomputable def c100_10:=cR c100_9
noncomputable def c100_11:=cL c100_9
noncomputable def c100_12:=cL c100_11
noncomputable def c100_13:=cR c100_12
noncomputable def c100_14:=cL c100_8
def c100_3_s:=reg100 c100_3 .ret (fun N M G k e w =>
 M (e 3) fun t18 =>
 M t18 fun t2 =>
 k (Env.p e 2 t2) w)
def c100_10_s:=rend100 c100_10 (fun N M G k e w =>
 N (xv (xbin .add 3 (.tmp 10) (.const (.int .i64 1)) (e 10) (.int .i64 1))) w fun t17 w =>
 M t17 fun t10 =>
 k (Env.p e 10 t10) w)
def c100_13_s:=rend100 c100_13 (fun N M G k e w =>
 M (e 3) fun t14 =>
 N (xv (loadAt 135 (e 5))) w fun t15 w =>
 N (xcall (.func (.func 101) #[] #[]) [t14, t15]) w fun t16 w =>
 k e w)
def c100_12_s:=reg100 c100_12 c100_13 (fun N M G k e w =>
 N (xv (indexAt 158 (e 8) (e 10))) w fun t12 w =>
 N (xv (loadAt 135 t12)) w fun t13 w =>
 N (xv (Instr.alloc 135 true (.tuple #[]))) w fun t5 w =>
 N (xu (storeAt 135 t5 t13)) w fun _ w =>
 k (Env.p e 5 t5) w)
def c100_11_s:=block100 c100_11 c100_12 1
def c100_9_s:=seq100 c100_9 c100_10 c100_11
def c100_14_s:=cond100 c100_14 (.exit 0) 11 .skip
def c100_8_s:=seq100 c100_8 c100_9 c100_14
def c100_7_s:=reg100 c100_7 c100_8 (fun N M G k e w =>
 N (xv (xbin .lss 3 (.tmp 10) (.tmp 9) (e 10) (e 9))) w fun t11 w =>
 k (Env.p e 11 t11) w)
def c100_6_s:=loop100 c100_6 c100_7
def c100_5_s:=block100 c100_5 c100_6 0
def c100_4_s:=reg100 c100_4 c100_5 (fun N M G k e w =>
 M (e 0) fun t8 =>
 N (builtin Builtin.len #[158] 3 ([false]).toArray ([t8]).toArray) w fun t9 w =>
 M (.int .i64 0) fun t10 =>
 k (Env.p (Env.p (Env.p e 8 t8) 9 t9) 10 t10) w)
def c100_2_s:=seq100 c100_2 c100_3 c100_4
def c100_1_s:=reg100 c100_1 c100_2 (fun N M G k e w =>
 N (xv (Instr.build 212 ([]).toArray)) w fun t6 w =>
 N (xv (Instr.box 212 t6)) w fun t7 w =>
 M t7 fun t3 =>
 k (Env.p e 3 t3) w)
def c100_s:=reg100 c100 c100_1 (fun N M G k e w =>
 M (.pointer none) fun t2 =>
 k (Env.p e 2 t2) w)
theorem call100 {a0 : Value} {w : World} {R : Value → World → Prop} (h : W3 Tryz.prog 19 V100 c100 (retQ Tryz.prog [.tmp 2] R) (argE [a0]) w) : CallsN Tryz.prog 100 [a0] w R :=
 callsN_of_W3 (c := c100) (rs := [.tmp 2]) V100 Tryz.ntmps100 (by rw [Tryz.results100]) mixed Tryz.func100 (by kernel_rfl) (by kernel_rfl) (by kernel_rfl) (by kernel_rfl) (by simp) h
def w3t_100:=w3t Tryz.prog 19 V100
def hk100 := aI @c100_3_s <| aI @c100_10_s <| aI @c100_13_s <| aI @c100_12_s <| aI @c100_11_s <| aI @c100_9_s <| aI @c100_14_s <| aI @c100_8_s <| aI @c100_7_s <| aI @c100_6_s <| aI @c100_5_s <| aI @c100_4_s <| aI @c100_2_s <| aI @c100_1_s <| aI @c100_s <| @w3t_100
-- K100: ↓hk100
/-! ### (*vouch/cover.Cover[int64]) . Len -/
def V42 : Nat → Bool := fun i => [0, 2].elem i
def reg42:=@s_reg Tryz.prog 6 V42
noncomputable def c42:Code:=(Tryz.f42.body.getD .skip)
noncomputable def c42_1:=cR c42
def c42_1_s:=reg42 c42_1 .ret (fun N M G k e w =>
 M (e 0) fun t3 =>
 N (xcall (.func (.func 105) #[] #[]) [t3]) w fun t4 w =>
 N (builtin Builtin.len #[158] 3 ([false]).toArray ([t4]).toArray) w fun t5 w =>
 M t5 fun t2 =>
 k (Env.p e 2 t2) w)
def c42_s:=reg42 c42 c42_1 (fun N M G k e w =>
 M (.int .i64 0) fun t2 =>
 k (Env.p e 2 t2) w)
theorem call42 {a0 : Value} {w : World} {R : Value → World → Prop} (h : W3 Tryz.prog 6 V42 c42 (retQ Tryz.prog [.tmp 2] R) (argE [a0]) w) : CallsN Tryz.prog 42 [a0] w R :=
 callsN_of_W3 (c := c42) (rs := [.tmp 2]) V42 Tryz.ntmps42 (by rw [Tryz.results42]) mixed Tryz.func42 (by kernel_rfl) (by kernel_rfl) (by kernel_rfl) (by kernel_rfl) (by simp) h
def w3t_42:=w3t Tryz.prog 6 V42
def hk42 := aI @c42_1_s <| aI @c42_s <| @w3t_42
-- K42: ↓hk42
/-! ### (*vouch/cover.Cover[int64]) . spans -/
def V105 : Nat → Bool := fun i => [0, 2, 4].elem i
def cond105:=@s_cond Tryz.prog 9 V105
def reg105:=@s_reg Tryz.prog 9 V105
def seq105:=@s_seq Tryz.prog 9 V105
noncomputable def c105:Code:=(Tryz.f105.body.getD .skip)
noncomputable def c105_1:=cR c105
noncomputable def c105_2:=cR c105_1
noncomputable def c105_3:=cL c105_1
noncomputable def c105_4:=cR c105_3
noncomputable def c105_5:=cL c105_4
def c105_2_s:=reg105 c105_2 .ret (fun N M G k e w =>
 M (e 0) fun t5 =>
 N (xnil t5) w fun t6 w =>
 N (xv (fieldAt 212 t6 0)) w fun t7 w =>
 N (xv (loadAt 158 t7)) w fun t8 w =>
 M t8 fun t2 =>
 k (Env.p e 2 t2) w)
def c105_5_s:=reg105 c105_5 .ret (fun N M G k e w =>
 M (.slice none 0 0) fun t2 =>
 k (Env.p e 2 t2) w)
def c105_4_s:=cond105 c105_4 .skip 4 c105_5
def c105_3_s:=reg105 c105_3 c105_4 (fun N M G k e w =>
 M (e 0) fun t3 =>
 N (xv (xbin .eql 81 (.tmp 3) (.const (.pointer none)) t3 (.pointer none))) w fun t4 w =>
 k (Env.p e 4 t4) w)
def c105_1_s:=seq105 c105_1 c105_2 c105_3
def c105_s:=reg105 c105 c105_1 (fun N M G k e w =>
 M (.slice none 0 0) fun t2 =>
 k (Env.p e 2 t2) w)
theorem call105 {a0 : Value} {w : World} {R : Value → World → Prop} (h : W3 Tryz.prog 9 V105 c105 (retQ Tryz.prog [.tmp 2] R) (argE [a0]) w) : CallsN Tryz.prog 105 [a0] w R :=
 callsN_of_W3 (c := c105) (rs := [.tmp 2]) V105 Tryz.ntmps105 (by rw [Tryz.results105]) mixed Tryz.func105 (by kernel_rfl) (by kernel_rfl) (by kernel_rfl) (by kernel_rfl) (by simp) h
def w3t_105:=w3t Tryz.prog 9 V105
def hk105 := aI @c105_2_s <| aI @c105_5_s <| aI @c105_4_s <| aI @c105_3_s <| aI @c105_1_s <| aI @c105_s <| @w3t_105
-- K105: ↓hk105
end
end Go.Proofs.YtomlgkecckffeaaGreat
