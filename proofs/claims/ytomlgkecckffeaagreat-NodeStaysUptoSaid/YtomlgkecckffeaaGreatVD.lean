/- The equations of the code of some functions, written by the printer gen3.py: each is checked by the kernel. -/
import Derived.Test.YtomlgkecckffeaaGreatCI
set_option linter.unusedVariables false
set_option linter.unusedSimpArgs false
set_option maxRecDepth 100000
namespace Go.Proofs.YtomlgkecckffeaaGreat
open Go.VW
open Go.Instr (loadAt storeAt fieldAt indexAt)
noncomputable section
set_option linter.defProp false
variable {N : NT} {T : T3T} {M : MT} {G : GT} {H : HT} {Y : YT} {k : KT} {Q : Exit → Env → World → Prop} {e el eg : Env} {w u0 u1 u2 u3 u4 u5 u6 u7 u8 u9 : World}
/-! ### vouch/recent.New -/
def V85 : Nat → Bool := fun i => [0, 1, 4].elem i
def reg85:=@s_reg Tryz.prog 16 V85
noncomputable def c85:Code:=(Tryz.f85.body.getD .skip)
noncomputable def c85_1:=cR c85
noncomputable def c85_2:=cR c85_1
def c85_2_s:=reg85 c85_2 .ret (fun N M G k e w =>
 M (e 0) fun t8 =>
 N (builtin Builtin.max #[3, 3] 3 ([false, true]).toArray ([t8, (.int .i64 0)]).toArray) w fun t9 w =>
 N (builtin Builtin.min #[3, 3] 3 ([false, true]).toArray ([t9, (.int .i64 1024)]).toArray) w fun t10 w =>
 N (xv (Instr.makeSlice 98 t10 t10)) w fun t11 w =>
 M (e 1) fun t12 =>
 M (e 1) fun t13 =>
 N (xv (Instr.build 184 ([(0, t11), (3, t12), (4, t13)]).toArray)) w fun t14 w =>
 N (xv (Instr.box 184 t14)) w fun t15 w =>
 M t15 fun t4 =>
 k (Env.p e 4 t4) w)
def c85_1_s:=reg85 c85_1 c85_2 (fun N M G k e w =>
 M (e 1) fun t5 =>
 N (builtin Builtin.max #[2, 2] 2 ([false, true]).toArray ([t5, (.int .i64 0)]).toArray) w fun t6 w =>
 N (builtin Builtin.min #[2, 2] 2 ([false, true]).toArray ([t6, (.int .i64 1099511627776)]).toArray) w fun t7 w =>
 M t7 fun t1 =>
 k (Env.p e 1 t1) w)
def c85_s:=reg85 c85 c85_1 (fun N M G k e w =>
 M (.pointer none) fun t4 =>
 k (Env.p e 4 t4) w)
theorem call85 {a0 a1 : Value} {w : World} {R : Value → World → Prop} (h : W3 Tryz.prog 16 V85 c85 (retQ Tryz.prog [.tmp 4] R) (argE [a0, a1]) w) : CallsN Tryz.prog 85 [a0, a1] w R :=
 callsN_of_W3 (c := c85) (rs := [.tmp 4]) V85 Tryz.ntmps85 (by rw [Tryz.results85]) mixed Tryz.func85 (by kernel_rfl) (by kernel_rfl) (by kernel_rfl) (by kernel_rfl) (by simp) h
def w3t_85:=w3t Tryz.prog 16 V85
def hk85 := aI @c85_2_s <| aI @c85_1_s <| aI @c85_s <| @w3t_85
-- K85: ↓hk85
/-! ### (*vouch/recent.Recent) . Note -/
def V67 : Nat → Bool := fun i => [0, 1, 2, 6, 8, 22, 27, 28, 29, 30].elem i
def block67:=@s_block Tryz.prog 39 V67
def cond67:=@s_cond Tryz.prog 39 V67
def loop67:=@s_loop Tryz.prog 39 V67
def reg67:=@s_reg Tryz.prog 39 V67
def rend67:=@s_rend Tryz.prog 39 V67
def seq67:=@s_seq Tryz.prog 39 V67
noncomputable def c67:Code:=(Tryz.f67.body.getD .skip)
noncomputable def c67_1:=cR c67
noncomputable def c67_2:=cR c67_1
noncomputable def c67_3:=cR c67_2
noncomputable def c67_4:=cR c67_3
noncomputable def c67_5:=cL c67_3
noncomputable def c67_6:=cR c67_5
noncomputable def c67_7:=cL c67_6
noncomputable def c67_8:=cL c67_7
noncomputable def c67_9:=cR c67_8
noncomputable def c67_10:=cR c67_9
noncomputable def c67_11:=cR c67_10
noncomputable def c67_12:=cL c67_10
noncomputable def c67_13:=cL c67_12
noncomputable def c67_14:=cR c67_13
noncomputable def c67_15:=cL c67_9
noncomputable def c67_16:=cL c67_1
noncomputable def c67_17:=cR c67_16
noncomputable def c67_18:=cL c67_17
def c67_4_s:=reg67 c67_4 .ret (fun N M G k e w =>
 M (.bool true) fun t6 =>
 k (Env.p e 6 t6) w)
def c67_11_s:=rend67 c67_11 (fun N M G k e w =>
 N (xv (xbin .add 3 (.tmp 29) (.const (.int .i64 1)) (e 29) (.int .i64 1))) w fun t38 w =>
 M t38 fun t29 =>
 k (Env.p e 29 t29) w)
def c67_14_s:=rend67 c67_14 (fun N M G k e w =>
 M (e 0) fun t33 =>
 M (e 1) fun t34 =>
 M (e 8) fun t35 =>
 N (xv (Instr.build 187 ([(0, t34), (1, t35)]).toArray)) w fun t36 w =>
 N (xcall (.func (.func 137) #[] #[]) [t33, t36]) w fun t37 w =>
 k e w)
def c67_13_s:=reg67 c67_13 c67_14 (fun N M G k e w =>
 N (xv (indexAt 22 (e 27) (e 29))) w fun t31 w =>
 N (xv (loadAt 9 t31)) w fun t32 w =>
 M t32 fun t8 =>
 k (Env.p e 8 t8) w)
def c67_12_s:=block67 c67_12 c67_13 1
def c67_10_s:=seq67 c67_10 c67_11 c67_12
def c67_15_s:=cond67 c67_15 (.exit 0) 30 .skip
def c67_9_s:=seq67 c67_9 c67_10 c67_15
def c67_8_s:=reg67 c67_8 c67_9 (fun N M G k e w =>
 N (xv (xbin .lss 3 (.tmp 29) (.tmp 28) (e 29) (e 28))) w fun t30 w =>
 k (Env.p e 30 t30) w)
def c67_7_s:=loop67 c67_7 c67_8
def c67_6_s:=block67 c67_6 c67_7 0
def c67_5_s:=reg67 c67_5 c67_6 (fun N M G k e w =>
 M (e 2) fun t27 =>
 N (builtin Builtin.len #[22] 3 ([false]).toArray ([t27]).toArray) w fun t28 w =>
 M (.int .i64 0) fun t29 =>
 k (Env.p (Env.p (Env.p e 27 t27) 28 t28) 29 t29) w)
def c67_3_s:=seq67 c67_3 c67_4 c67_5
def c67_2_s:=reg67 c67_2 c67_3 (fun N M G k e w =>
 M (e 0) fun t23 =>
 M (e 1) fun t24 =>
 N (xnil t23) w fun t25 w =>
 N (xv (fieldAt 184 t25 4)) w fun t26 w =>
 N (xu (storeAt 2 t26 t24)) w fun _ w =>
 k e w)
def c67_18_s:=reg67 c67_18 .ret (fun N M G k e w =>
 M (.bool false) fun t6 =>
 k (Env.p e 6 t6) w)
def c67_17_s:=cond67 c67_17 .skip 22 c67_18
def c67_16_s:=reg67 c67_16 c67_17 (fun N M G k e w =>
 M (e 0) fun t9 =>
 N (xv (xbin .eql 116 (.tmp 9) (.const (.pointer none)) t9 (.pointer none))) w fun t10 w =>
 M t10 fun t11 =>
 G (isB t11 false) (fun K => M (e 1) fun v => K v w) (fun t12 w =>
 G (isB t11 false) (fun K => M (e 0) fun v => K v w) (fun t13 w =>
 G (isB t11 false) (fun K => N (xnil t13) w K) (fun t14 w =>
 G (isB t11 false) (fun K => N (xv (fieldAt 184 t14 4)) w K) (fun t15 w =>
 G (isB t11 false) (fun K => N (xv (loadAt 2 t15)) w K) (fun t16 w =>
 G (isB t11 false) (fun K => N (xv (xbin .leq 2 (.tmp 12) (.tmp 16) t12 t16)) w K) (fun t17 w =>
 N (xpick t11 (.bool true) t17) w fun t18 w =>
 M t18 fun t19 =>
 G (isB t19 false) (fun K => M (e 1) fun v => K v w) (fun t20 w =>
 G (isB t19 false) (fun K => N (xv (xbin .gtr 2 (.tmp 20) (.const (.int .i64 1099511627776)) t20 (.int .i64 1099511627776))) w K) (fun t21 w =>
 N (xpick t19 (.bool true) t21) w fun t22 w =>
 k (Env.p e 22 t22) w) w) w) w) w) w) w) w) w)
def c67_1_s:=seq67 c67_1 c67_2 c67_16
def c67_s:=reg67 c67 c67_1 (fun N M G k e w =>
 M (.bool false) fun t6 =>
 k (Env.p e 6 t6) w)
theorem call67 {a0 a1 a2 : Value} {w : World} {R : Value → World → Prop} (h : W3 Tryz.prog 39 V67 c67 (retQ Tryz.prog [.tmp 6] R) (argE [a0, a1, a2]) w) : CallsN Tryz.prog 67 [a0, a1, a2] w R :=
 callsN_of_W3 (c := c67) (rs := [.tmp 6]) V67 Tryz.ntmps67 (by rw [Tryz.results67]) mixed Tryz.func67 (by kernel_rfl) (by kernel_rfl) (by kernel_rfl) (by kernel_rfl) (by simp) h
def w3t_67:=w3t Tryz.prog 39 V67
def hk67 := aI @c67_4_s <| aI @c67_11_s <| aI @c67_14_s <| aI @c67_13_s <| aI @c67_12_s <| aI @c67_10_s <| aI @c67_15_s <| aI @c67_9_s <| aI @c67_8_s <| aI @c67_7_s <| aI @c67_6_s <| aI @c67_5_s <| aI @c67_3_s <| aI @c67_2_s <| aI @c67_18_s <| aI @c67_17_s <| aI @c67_16_s <| aI @c67_1_s <| aI @c67_s <| @w3t_67
-- K67: ↓hk67
/-! ### (*vouch/recent.Recent) . put -/
def V137 : Nat → Bool := fun i => [0, 1, 3, 9, 24].elem i
def cond137:=@s_cond Tryz.prog 88 V137
def drw137:=@s_drw Tryz.prog 88 V137
def reg137:=@s_reg Tryz.prog 88 V137
def rend137:=@s_rend Tryz.prog 88 V137
def seq137:=@s_seq Tryz.prog 88 V137
noncomputable def c137:Code:=(Tryz.f137.body.getD .skip)
noncomputable def c137_1:=cR c137
noncomputable def c137_2:=cR c137_1
noncomputable def c137_3:=cR c137_2
noncomputable def b137_7:List Row:=[(0, 0, 1, 61, true), (1, 1, 1152921504606846976, 62, true), (2, 3, 2305843009213693952, 63, true), (4, 7, 4611686018427387904, 64, true), (0, 0, 1, 65, true), (16, 16, 18446744073709551616, 66, true), (32, 48, 36893488147419103232, 67, true), (64, 112, 73786976294838206464, 68, true), (0, 0, 1, 69, true), (256, 256, 295147905179352825856, 70, true), (512, 768, 590295810358705651712, 71, true), (1024, 1792, 1180591620717411303424, 72, true), (2176, 4080, 2508757194024499019776, 73, true), (0, 0, 1, 74, true), (8192, 8192, 9444732965739290427392, 75, true), (16384, 24576, 18889465931478580854784, 76, true), (32768, 57344, 37778931862957161709568, 77, true), (65536, 122880, 75557863725914323419136, 78, true), (135168, 262128, 155838093934698292051968, 79, true), (0, 0, 8, 80, true), (1048575, 1048575, 302240678275694148452352, 81, true), (2097151, 2097151, 1813388729421943762059264, 0, false)]
noncomputable def c137_4:=cR c137_3
noncomputable def c137_5:=cL c137_2
noncomputable def b137_3:List Row:=[(0, 0, 1, 16, true), (1, 1, 32768, 17, true), (2, 3, 65536, 18, true), (4, 7, 131072, 19, true), (0, 0, 1, 20, true), (16, 16, 524288, 21, true), (32, 48, 1048576, 22, true), (64, 112, 2097152, 23, true), (128, 240, 4194304, 24, true), (264, 511, 8650752, 25, true)]
noncomputable def c137_6:=cR c137_5
noncomputable def c137_7:=cL c137_6
noncomputable def b137_4:List Row:=[(0, 0, 1, 26, true), (0, 0, 1, 27, true), (2, 2, 67108864, 28, true), (4, 6, 134217728, 29, true), (8, 14, 268435456, 30, true), (0, 0, 1, 31, true), (32, 32, 1073741824, 32, true), (64, 96, 2147483648, 33, true), (128, 224, 4294967296, 34, true), (272, 510, 9126805504, 35, true), (512, 1022, 17179869184, 36, true), (1024, 2046, 34359738368, 37, true), (4095, 4095, 33554432, 38, true), (8191, 8191, 137438953472, 39, true), (12287, 16383, 343597383680, 0, false)]
noncomputable def c137_8:=cR c137_7
noncomputable def b137_5:List Row:=[(0, 0, 1, 40, true), (0, 0, 1, 41, true), (2, 2, 1099511627776, 42, true), (4, 6, 2199023255552, 43, true), (8, 14, 4398046511104, 44, true), (16, 30, 8796093022208, 45, true), (0, 0, 1, 46, true), (64, 64, 35184372088832, 47, true), (128, 192, 70368744177664, 48, true), (256, 448, 140737488355328, 49, true), (512, 960, 281474976710656, 50, true), (1056, 2046, 580542139465728, 51, true), (4095, 4095, 549755813888, 52, true), (8191, 8191, 2251799813685248, 53, true), (12287, 16383, 5629499534213120, 0, false)]
noncomputable def c137_9:=cR c137_8
noncomputable def c137_10:=cL c137_1
noncomputable def c137_11:=cR c137_10
noncomputable def c137_12:=cL c137_11
def c137_4_s:=rend137 c137_4 (fun N M G k e w =>
 M (e 0) fun t81 =>
 N (xnil t81) w fun t82 w =>
 N (xv (fieldAt 184 t82 2)) w fun t83 w =>
 N (xv (loadAt 3 t83)) w fun t84 w =>
 N (xv (xbin .add 3 (.tmp 84) (.const (.int .i64 1)) t84 (.int .i64 1))) w fun t85 w =>
 N (xnil t81) w fun t86 w =>
 N (xv (fieldAt 184 t86 2)) w fun t87 w =>
 N (xu (storeAt 3 t87 t85)) w fun _ w =>
 k e w)
def c137_3_s:=drw137 c137_3 c137_4 b137_7 22 (fun N T M G H Y k e w =>
 M (e 0) fun t60 =>
 T (FrX none w) (xnil t60) fun t61 =>
 T (FrX none w) (xv (fieldAt 184 t61 0)) fun t62 =>
 T (FrX (some []) w) (xv (loadAt 98 t62)) fun t63 =>
 M (e 0) fun t64 =>
 T (FrX none w) (xnil t64) fun t65 =>
 T (FrX none w) (xv (fieldAt 184 t65 1)) fun t66 =>
 T (FrX (some []) w) (xv (loadAt 3 t66)) fun t67 =>
 M (e 0) fun t68 =>
 T (FrX none w) (xnil t68) fun t69 =>
 T (FrX none w) (xv (fieldAt 184 t69 2)) fun t70 =>
 T (FrX (some []) w) (xv (loadAt 3 t70)) fun t71 =>
 T (FrX none w) (xv (xbin .add 3 (.tmp 67) (.tmp 71) t67 t71)) fun t72 =>
 M (e 0) fun t73 =>
 T (FrX none w) (xnil t73) fun t74 =>
 T (FrX none w) (xv (fieldAt 184 t74 0)) fun t75 =>
 T (FrX (some []) w) (xv (loadAt 98 t75)) fun t76 =>
 T (FrX (some []) w) (builtin Builtin.len #[98] 3 ([false]).toArray ([t76]).toArray) fun t77 =>
 T (FrX none w) (xv (xbin .rem 3 (.tmp 72) (.tmp 77) t72 t77)) fun t78 =>
 T (FrX (some []) w) (xv (loadAt 187 (e 3))) fun t79 =>
 T (FrX none w) (xv (indexAt 98 t63 t78)) fun t80 =>
 N (xu (storeAt 187 t80 t79)) w fun _ w21 =>
 k e w21)
def c137_9_s:=rend137 c137_9 (fun N M G k e w =>
 M (e 0) fun t53 =>
 N (xnil t53) w fun t54 w =>
 N (xv (fieldAt 184 t54 2)) w fun t55 w =>
 N (xv (loadAt 3 t55)) w fun t56 w =>
 N (xv (xbin .sub 3 (.tmp 56) (.const (.int .i64 1)) t56 (.int .i64 1))) w fun t57 w =>
 N (xnil t53) w fun t58 w =>
 N (xv (fieldAt 184 t58 2)) w fun t59 w =>
 N (xu (storeAt 3 t59 t57)) w fun _ w =>
 k e w)
def c137_8_s:=drw137 c137_8 c137_9 b137_5 15 (fun N T M G H Y k e w =>
 M (e 0) fun t39 =>
 M (e 0) fun t40 =>
 T (FrX none w) (xnil t40) fun t41 =>
 T (FrX none w) (xv (fieldAt 184 t41 1)) fun t42 =>
 T (FrX (some []) w) (xv (loadAt 3 t42)) fun t43 =>
 T (FrX none w) (xv (xbin .add 3 (.tmp 43) (.const (.int .i64 1)) t43 (.int .i64 1))) fun t44 =>
 M (e 0) fun t45 =>
 T (FrX none w) (xnil t45) fun t46 =>
 T (FrX none w) (xv (fieldAt 184 t46 0)) fun t47 =>
 T (FrX (some []) w) (xv (loadAt 98 t47)) fun t48 =>
 T (FrX (some []) w) (builtin Builtin.len #[98] 3 ([false]).toArray ([t48]).toArray) fun t49 =>
 T (FrX none w) (xv (xbin .rem 3 (.tmp 44) (.tmp 49) t44 t49)) fun t50 =>
 T (FrX none w) (xnil t39) fun t51 =>
 T (FrX none w) (xv (fieldAt 184 t51 1)) fun t52 =>
 N (xu (storeAt 3 t52 t50)) w fun _ w14 =>
 k e w14)
def c137_7_s:=drw137 c137_7 c137_8 b137_4 15 (fun N T M G H Y k e w =>
 M (e 0) fun t25 =>
 M (e 0) fun t26 =>
 T (FrX none w) (xnil t26) fun t27 =>
 T (FrX none w) (xv (fieldAt 184 t27 0)) fun t28 =>
 T (FrX (some []) w) (xv (loadAt 98 t28)) fun t29 =>
 M (e 0) fun t30 =>
 T (FrX none w) (xnil t30) fun t31 =>
 T (FrX none w) (xv (fieldAt 184 t31 1)) fun t32 =>
 T (FrX (some []) w) (xv (loadAt 3 t32)) fun t33 =>
 T (FrX none w) (xv (indexAt 98 t29 t33)) fun t34 =>
 T (FrX none w) (xv (fieldAt 187 t34 0)) fun t35 =>
 T (FrX (some []) w) (xv (loadAt 2 t35)) fun t36 =>
 T (FrX none w) (xnil t25) fun t37 =>
 T (FrX none w) (xv (fieldAt 184 t37 3)) fun t38 =>
 N (xu (storeAt 2 t38 t36)) w fun _ w14 =>
 k e w14)
def c137_6_s:=cond137 c137_6 .skip 24 c137_7
def c137_5_s:=drw137 c137_5 c137_6 b137_3 10 (fun N T M G H Y k e w =>
 M (e 0) fun t15 =>
 T (FrX none w) (xnil t15) fun t16 =>
 T (FrX none w) (xv (fieldAt 184 t16 2)) fun t17 =>
 T (FrX (some []) w) (xv (loadAt 3 t17)) fun t18 =>
 M (e 0) fun t19 =>
 T (FrX none w) (xnil t19) fun t20 =>
 T (FrX none w) (xv (fieldAt 184 t20 0)) fun t21 =>
 T (FrX (some []) w) (xv (loadAt 98 t21)) fun t22 =>
 T (FrX (some []) w) (builtin Builtin.len #[98] 3 ([false]).toArray ([t22]).toArray) fun t23 =>
 T (FrX none w) (xv (xbin .eql 3 (.tmp 18) (.tmp 23) t18 t23)) fun t24 =>
 k (Env.p e 24 t24) w)
def c137_2_s:=seq137 c137_2 c137_3 c137_5
def c137_12_s:=reg137 c137_12 .ret (fun N M G k e w =>
 M (e 0) fun t10 =>
 N (xv (fieldAt 187 (e 3) 0)) w fun t11 w =>
 N (xv (loadAt 2 t11)) w fun t12 w =>
 N (xnil t10) w fun t13 w =>
 N (xv (fieldAt 184 t13 3)) w fun t14 w =>
 N (xu (storeAt 2 t14 t12)) w fun _ w =>
 k e w)
def c137_11_s:=cond137 c137_11 .skip 9 c137_12
def c137_10_s:=reg137 c137_10 c137_11 (fun N M G k e w =>
 M (e 0) fun t4 =>
 N (xnil t4) w fun t5 w =>
 N (xv (fieldAt 184 t5 0)) w fun t6 w =>
 N (xv (loadAt 98 t6)) w fun t7 w =>
 N (builtin Builtin.len #[98] 3 ([false]).toArray ([t7]).toArray) w fun t8 w =>
 N (xv (xbin .eql 3 (.tmp 8) (.const (.int .i64 0)) t8 (.int .i64 0))) w fun t9 w =>
 k (Env.p e 9 t9) w)
def c137_1_s:=seq137 c137_1 c137_2 c137_10
def c137_s:=reg137 c137 c137_1 (fun N M G k e w =>
 N (xv (Instr.box 187 (e 1))) w fun t3 w =>
 k (Env.p e 3 t3) w)
theorem call137 {a0 a1 : Value} {w : World} {R : Value → World → Prop} (h : W3 Tryz.prog 88 V137 c137 (retQ Tryz.prog [] R) (argE [a0, a1]) w) : CallsN Tryz.prog 137 [a0, a1] w R :=
 callsN_of_W3 (c := c137) (rs := []) V137 Tryz.ntmps137 (by rw [Tryz.results137]) mixed Tryz.func137 (by kernel_rfl) (by kernel_rfl) (by kernel_rfl) (by kernel_rfl) (by simp) h
def w3t_137:=w3t Tryz.prog 88 V137
def hk137 := aI @c137_4_s <| aI @c137_3_s <| aI @c137_9_s <| aI @c137_8_s <| aI @c137_7_s <| aI @c137_6_s <| aI @c137_5_s <| aI @c137_2_s <| aI @c137_12_s <| aI @c137_11_s <| aI @c137_10_s <| aI @c137_1_s <| aI @c137_s <| @w3t_137
-- K137: ↓hk137
/-! ### (*vouch/recent.Recent) . Since -/
def V77 : Nat → Bool := fun i => [0, 2, 4].elem i
def cond77:=@s_cond Tryz.prog 9 V77
def reg77:=@s_reg Tryz.prog 9 V77
def seq77:=@s_seq Tryz.prog 9 V77
noncomputable def c77:Code:=(Tryz.f77.body.getD .skip)
noncomputable def c77_1:=cR c77
noncomputable def c77_2:=cR c77_1
noncomputable def c77_3:=cL c77_1
noncomputable def c77_4:=cR c77_3
noncomputable def c77_5:=cL c77_4
def c77_2_s:=reg77 c77_2 .ret (fun N M G k e w =>
 M (e 0) fun t5 =>
 N (xnil t5) w fun t6 w =>
 N (xv (fieldAt 184 t6 3)) w fun t7 w =>
 N (xv (loadAt 2 t7)) w fun t8 w =>
 M t8 fun t2 =>
 k (Env.p e 2 t2) w)
def c77_5_s:=reg77 c77_5 .ret (fun N M G k e w =>
 M (.int .i64 0) fun t2 =>
 k (Env.p e 2 t2) w)
def c77_4_s:=cond77 c77_4 .skip 4 c77_5
def c77_3_s:=reg77 c77_3 c77_4 (fun N M G k e w =>
 M (e 0) fun t3 =>
 N (xv (xbin .eql 116 (.tmp 3) (.const (.pointer none)) t3 (.pointer none))) w fun t4 w =>
 k (Env.p e 4 t4) w)
def c77_1_s:=seq77 c77_1 c77_2 c77_3
def c77_s:=reg77 c77 c77_1 (fun N M G k e w =>
 M (.int .i64 0) fun t2 =>
 k (Env.p e 2 t2) w)
theorem call77 {a0 : Value} {w : World} {R : Value → World → Prop} (h : W3 Tryz.prog 9 V77 c77 (retQ Tryz.prog [.tmp 2] R) (argE [a0]) w) : CallsN Tryz.prog 77 [a0] w R :=
 callsN_of_W3 (c := c77) (rs := [.tmp 2]) V77 Tryz.ntmps77 (by rw [Tryz.results77]) mixed Tryz.func77 (by kernel_rfl) (by kernel_rfl) (by kernel_rfl) (by kernel_rfl) (by simp) h
def w3t_77:=w3t Tryz.prog 9 V77
def hk77 := aI @c77_2_s <| aI @c77_5_s <| aI @c77_4_s <| aI @c77_3_s <| aI @c77_1_s <| aI @c77_s <| @w3t_77
-- K77: ↓hk77
/-! ### (*vouch/recent.Recent) . Covers -/
def V121 : Nat → Bool := fun i => [0, 1, 4].elem i
def reg121:=@s_reg Tryz.prog 23 V121
noncomputable def c121:Code:=(Tryz.f121.body.getD .skip)
noncomputable def c121_1:=cR c121
def c121_1_s:=reg121 c121_1 .ret (fun N M G k e w =>
 M (e 0) fun t5 =>
 N (xv (xbin .neq 116 (.tmp 5) (.const (.pointer none)) t5 (.pointer none))) w fun t6 w =>
 M t6 fun t7 =>
 G (isB t7 true) (fun K => M (e 0) fun v => K v w) (fun t8 w =>
 G (isB t7 true) (fun K => N (xnil t8) w K) (fun t9 w =>
 G (isB t7 true) (fun K => N (xv (fieldAt 184 t9 3)) w K) (fun t10 w =>
 G (isB t7 true) (fun K => N (xv (loadAt 2 t10)) w K) (fun t11 w =>
 G (isB t7 true) (fun K => M (e 1) fun v => K v w) (fun t12 w =>
 G (isB t7 true) (fun K => N (xv (xbin .leq 2 (.tmp 11) (.tmp 12) t11 t12)) w K) (fun t13 w =>
 N (xpick t7 t13 (.bool false)) w fun t14 w =>
 M t14 fun t15 =>
 G (isB t15 true) (fun K => M (e 1) fun v => K v w) (fun t16 w =>
 G (isB t15 true) (fun K => M (e 0) fun v => K v w) (fun t17 w =>
 G (isB t15 true) (fun K => N (xnil t17) w K) (fun t18 w =>
 G (isB t15 true) (fun K => N (xv (fieldAt 184 t18 4)) w K) (fun t19 w =>
 G (isB t15 true) (fun K => N (xv (loadAt 2 t19)) w K) (fun t20 w =>
 G (isB t15 true) (fun K => N (xv (xbin .leq 2 (.tmp 16) (.tmp 20) t16 t20)) w K) (fun t21 w =>
 N (xpick t15 t21 (.bool false)) w fun t22 w =>
 M t22 fun t4 =>
 k (Env.p e 4 t4) w) w) w) w) w) w) w) w) w) w) w) w) w)
def c121_s:=reg121 c121 c121_1 (fun N M G k e w =>
 M (.bool false) fun t4 =>
 k (Env.p e 4 t4) w)
theorem call121 {a0 a1 : Value} {w : World} {R : Value → World → Prop} (h : W3 Tryz.prog 23 V121 c121 (retQ Tryz.prog [.tmp 4] R) (argE [a0, a1]) w) : CallsN Tryz.prog 121 [a0, a1] w R :=
 callsN_of_W3 (c := c121) (rs := [.tmp 4]) V121 Tryz.ntmps121 (by rw [Tryz.results121]) mixed Tryz.func121 (by kernel_rfl) (by kernel_rfl) (by kernel_rfl) (by kernel_rfl) (by simp) h
def w3t_121:=w3t Tryz.prog 23 V121
def hk121 := aI @c121_1_s <| aI @c121_s <| @w3t_121
-- K121: ↓hk121
/-! ### (*vouch/recent.Recent) . First -/
def V122 : Nat → Bool := fun i => [0, 1, 2, 6, 7, 8, 9, 11, 15, 16, 17, 31].elem i
def block122:=@s_block Tryz.prog 35 V122
def cond122:=@s_cond Tryz.prog 35 V122
def loop122:=@s_loop Tryz.prog 35 V122
def reg122:=@s_reg Tryz.prog 35 V122
def rend122:=@s_rend Tryz.prog 35 V122
def seq122:=@s_seq Tryz.prog 35 V122
noncomputable def c122:Code:=(Tryz.f122.body.getD .skip)
noncomputable def c122_1:=cR c122
noncomputable def c122_2:=cR c122_1
noncomputable def c122_3:=cR c122_2
noncomputable def c122_4:=cL c122_2
noncomputable def c122_5:=cR c122_4
noncomputable def c122_6:=cL c122_5
noncomputable def c122_7:=cL c122_6
noncomputable def c122_8:=cR c122_7
noncomputable def c122_9:=cR c122_8
noncomputable def c122_10:=cR c122_9
noncomputable def c122_11:=cL c122_9
noncomputable def c122_12:=cL c122_11
noncomputable def c122_13:=cR c122_12
noncomputable def c122_14:=cR c122_13
noncomputable def c122_15:=cR c122_14
noncomputable def c122_16:=cL c122_15
noncomputable def c122_17:=cL c122_8
noncomputable def c122_18:=cL c122_1
noncomputable def c122_19:=cR c122_18
noncomputable def c122_20:=cL c122_19
def c122_3_s:=reg122 c122_3 .ret (fun N M G k e w =>
 M (.int .i64 0) fun t6 =>
 M (.bool false) fun t7 =>
 k (Env.p (Env.p e 6 t6) 7 t7) w)
def c122_10_s:=rend122 c122_10 (fun N M G k e w =>
 N (xv (xbin .add 3 (.tmp 16) (.const (.int .i64 1)) (e 16) (.int .i64 1))) w fun t34 w =>
 M t34 fun t16 =>
 k (Env.p e 16 t16) w)
def c122_16_s:=reg122 c122_16 .ret (fun N M G k e w =>
 N (xv (fieldAt 187 (e 9) 0)) w fun t32 w =>
 N (xv (loadAt 2 t32)) w fun t33 w =>
 M t33 fun t6 =>
 M (.bool true) fun t7 =>
 k (Env.p (Env.p e 6 t6) 7 t7) w)
def c122_15_s:=cond122 c122_15 .skip 31 c122_16
def c122_14_s:=reg122 c122_14 c122_15 (fun N M G k e w =>
 N (xv (fieldAt 187 (e 9) 0)) w fun t22 w =>
 N (xv (loadAt 2 t22)) w fun t23 w =>
 M (e 2) fun t24 =>
 N (xv (xbin .gtr 2 (.tmp 23) (.tmp 24) t23 t24)) w fun t25 w =>
 M t25 fun t26 =>
 G (isB t26 true) (fun K => N (xv (fieldAt 187 (e 9) 1)) w K) (fun t27 w =>
 G (isB t26 true) (fun K => N (xv (loadAt 9 t27)) w K) (fun t28 w =>
 G (isB t26 true) (fun K => M (e 1) fun v => K v w) (fun t29 w =>
 G (isB t26 true) (fun K => N (xv (xbin .eql 9 (.tmp 28) (.tmp 29) t28 t29)) w K) (fun t30 w =>
 N (xpick t26 t30 (.bool false)) w fun t31 w =>
 k (Env.p e 31 t31) w) w) w) w) w)
def c122_13_s:=reg122 c122_13 c122_14 (fun N M G k e w =>
 M (e 0) fun t19 =>
 M (e 8) fun t20 =>
 N (xcall (.func (.func 170) #[] #[]) [t19, t20]) w fun t21 w =>
 N (xv (Instr.alloc 187 true (.tuple #[]))) w fun t9 w =>
 N (xu (storeAt 187 t9 t21)) w fun _ w =>
 k (Env.p e 9 t9) w)
def c122_12_s:=reg122 c122_12 c122_13 (fun N M G k e w =>
 M (e 16) fun t18 =>
 M t18 fun t8 =>
 k (Env.p e 8 t8) w)
def c122_11_s:=block122 c122_11 c122_12 1
def c122_9_s:=seq122 c122_9 c122_10 c122_11
def c122_17_s:=cond122 c122_17 (.exit 0) 17 .skip
def c122_8_s:=seq122 c122_8 c122_9 c122_17
def c122_7_s:=reg122 c122_7 c122_8 (fun N M G k e w =>
 N (xv (xbin .lss 3 (.tmp 16) (.tmp 15) (e 16) (e 15))) w fun t17 w =>
 k (Env.p e 17 t17) w)
def c122_6_s:=loop122 c122_6 c122_7
def c122_5_s:=block122 c122_5 c122_6 0
def c122_4_s:=reg122 c122_4 c122_5 (fun N M G k e w =>
 M (e 0) fun t12 =>
 N (xnil t12) w fun t13 w =>
 N (xv (fieldAt 184 t13 2)) w fun t14 w =>
 N (xv (loadAt 3 t14)) w fun t15 w =>
 M (.int .i64 0) fun t16 =>
 k (Env.p (Env.p e 15 t15) 16 t16) w)
def c122_2_s:=seq122 c122_2 c122_3 c122_4
def c122_20_s:=reg122 c122_20 .ret (fun N M G k e w =>
 M (.int .i64 0) fun t6 =>
 M (.bool false) fun t7 =>
 k (Env.p (Env.p e 6 t6) 7 t7) w)
def c122_19_s:=cond122 c122_19 .skip 11 c122_20
def c122_18_s:=reg122 c122_18 c122_19 (fun N M G k e w =>
 M (e 0) fun t10 =>
 N (xv (xbin .eql 116 (.tmp 10) (.const (.pointer none)) t10 (.pointer none))) w fun t11 w =>
 k (Env.p e 11 t11) w)
def c122_1_s:=seq122 c122_1 c122_2 c122_18
def c122_s:=reg122 c122 c122_1 (fun N M G k e w =>
 M (.int .i64 0) fun t6 =>
 M (.bool false) fun t7 =>
 k (Env.p (Env.p e 6 t6) 7 t7) w)
theorem call122 {a0 a1 a2 : Value} {w : World} {R : Value → World → Prop} (h : W3 Tryz.prog 35 V122 c122 (retQ Tryz.prog [.tmp 6, .tmp 7] R) (argE [a0, a1, a2]) w) : CallsN Tryz.prog 122 [a0, a1, a2] w R :=
 callsN_of_W3 (c := c122) (rs := [.tmp 6, .tmp 7]) V122 Tryz.ntmps122 (by rw [Tryz.results122]) mixed Tryz.func122 (by kernel_rfl) (by kernel_rfl) (by kernel_rfl) (by kernel_rfl) (by simp) h
def w3t_122:=w3t Tryz.prog 35 V122
def hk122 := aI @c122_3_s <| aI @c122_10_s <| aI @c122_16_s <| aI @c122_15_s <| aI @c122_14_s <| aI @c122_13_s <| aI @c122_12_s <| aI @c122_11_s <| aI @c122_9_s <| aI @c122_17_s <| aI @c122_8_s <| aI @c122_7_s <| aI @c122_6_s <| aI @c122_5_s <| aI @c122_4_s <| aI @c122_2_s <| aI @c122_20_s <| aI @c122_19_s <| aI @c122_18_s <| aI @c122_1_s <| aI @c122_s <| @w3t_122
-- K122: ↓hk122
/-! ### (*vouch/recent.Recent) . at -/
def V170 : Nat → Bool := fun i => [0, 1, 4].elem i
def drw170:=@s_drw Tryz.prog 23 V170
def reg170:=@s_reg Tryz.prog 23 V170
noncomputable def c170:Code:=(Tryz.f170.body.getD .skip)
noncomputable def c170_1:=cR c170
noncomputable def b170_1:List Row:=[(0, 0, 1, 6, true), (1, 1, 32, 7, true), (2, 3, 64, 8, true), (4, 7, 128, 9, true), (0, 0, 1, 10, true), (16, 16, 512, 11, true), (32, 48, 1024, 12, true), (64, 112, 2048, 13, true), (0, 0, 2, 14, true), (384, 496, 12288, 15, true), (0, 0, 1, 16, true), (1024, 1024, 32768, 17, true), (2048, 3072, 65536, 18, true), (4096, 7168, 131072, 19, true), (8192, 15360, 262144, 20, true), (16896, 32752, 540672, 21, true), (32776, 65535, 1048832, 22, true), (65536, 131071, 2097152, 23, true), (262143, 262143, 4194320, 0, false)]
def c170_1_s:=drw170 c170_1 .ret b170_1 19 (fun N T M G H Y k e w =>
 M (e 0) fun t5 =>
 T (FrX none w) (xnil t5) fun t6 =>
 T (FrX none w) (xv (fieldAt 184 t6 0)) fun t7 =>
 T (FrX (some []) w) (xv (loadAt 98 t7)) fun t8 =>
 M (e 0) fun t9 =>
 T (FrX none w) (xnil t9) fun t10 =>
 T (FrX none w) (xv (fieldAt 184 t10 1)) fun t11 =>
 T (FrX (some []) w) (xv (loadAt 3 t11)) fun t12 =>
 M (e 1) fun t13 =>
 T (FrX none w) (xv (xbin .add 3 (.tmp 12) (.tmp 13) t12 t13)) fun t14 =>
 M (e 0) fun t15 =>
 T (FrX none w) (xnil t15) fun t16 =>
 T (FrX none w) (xv (fieldAt 184 t16 0)) fun t17 =>
 T (FrX (some []) w) (xv (loadAt 98 t17)) fun t18 =>
 T (FrX (some []) w) (builtin Builtin.len #[98] 3 ([false]).toArray ([t18]).toArray) fun t19 =>
 T (FrX none w) (xv (xbin .rem 3 (.tmp 14) (.tmp 19) t14 t19)) fun t20 =>
 T (FrX none w) (xv (indexAt 98 t8 t20)) fun t21 =>
 T (FrX (some []) w) (xv (loadAt 187 t21)) fun t22 =>
 N (xu (storeAt 187 (e 4) t22)) w fun _ w18 =>
 k e w18)
def c170_s:=reg170 c170 c170_1 (fun N M G k e w =>
 N (xv (Instr.alloc 187 true (.tuple #[]))) w fun t4 w =>
 k (Env.p e 4 t4) w)
theorem call170 {a0 a1 : Value} {w : World} {R : Value → World → Prop} (h : W3 Tryz.prog 23 V170 c170 (retQ Tryz.prog [.cell 4 187] R) (argE [a0, a1]) w) : CallsN Tryz.prog 170 [a0, a1] w R :=
 callsN_of_W3 (c := c170) (rs := [.cell 4 187]) V170 Tryz.ntmps170 (by rw [Tryz.results170]) mixed Tryz.func170 (by kernel_rfl) (by kernel_rfl) (by kernel_rfl) (by kernel_rfl) (by simp) h
def w3t_170:=w3t Tryz.prog 23 V170
def hk170 := aI @c170_1_s <| aI @c170_s <| @w3t_170
-- K170: ↓hk170
end
end Go.Proofs.YtomlgkecckffeaaGreat
