/- The equations of the code of some functions, written by the printer gen3.py: each is checked by the kernel. The plain law of facts (layer 9): Merge and the settling, the code's against the document's, at the upper end. The newest invalidations: Note. Facts: Held, Close, Merge. -/
import Derived.Test.YtomlgkecckffeaaGreatCI
import Derived.Test.YtomlgkecckffeaaGreatP2
import Derived.Test.YtomlgkecckffeaaGreatF1
import Derived.Test.YtomlgkecckffeaaGreatN3
set_option linter.unusedVariables false
set_option linter.unusedSimpArgs false
set_option maxRecDepth 100000
namespace Go.Proofs.YtomlgkecckffeaaGreat
open Go.VW
open Go.Instr (loadAt storeAt fieldAt indexAt)
noncomputable section
set_option linter.defProp false
variable {N : NT} {T : T3T} {M : MT} {G : GT} {H : HT} {Y : YT} {k : KT} {Q : Exit → Env → World → Prop} {e el eg : Env} {w u0 u1 u2 u3 u4 u5 u6 u7 u8 u9 : World}
/-! ### vouch/fact.Held -/
def V43 : Nat → Bool := fun i => [0, 1, 2, 3].elem i
def drw43:=@s_drw Tryz.prog 37 V43
def reg43:=@s_reg Tryz.prog 37 V43
noncomputable def c43:Code:=(Tryz.f43.body.getD .skip)
noncomputable def c43_1:=cR c43
noncomputable def c43_2:=cR c43_1
noncomputable def b43_2:List Row:=[(0, 0, 8, 5, true), (0, 0, 2, 6, true), (2, 2, 32, 7, true), (5, 7, 80, 8, false), (0, 0, 8, 9, true), (0, 0, 2, 10, true), (32, 32, 512, 11, true), (88, 127, 1280, 12, false), (0, 0, 8, 13, true), (0, 0, 2, 14, true), (512, 512, 8192, 15, true), (1408, 2047, 20480, 16, false), (0, 0, 8, 17, true), (0, 0, 2, 18, true), (8192, 8192, 131072, 19, true), (22528, 32767, 327680, 20, false), (0, 0, 8, 21, true), (0, 0, 2, 22, true), (131072, 131072, 2097152, 23, true), (360448, 524287, 5242880, 24, false), (0, 0, 8, 25, true), (0, 0, 2, 26, true), (2097152, 2097152, 33554432, 27, true), (5767168, 8388607, 83886080, 28, false), (0, 0, 8, 29, true), (0, 0, 2, 30, true), (33554432, 33554432, 536870912, 31, true), (92274688, 134217727, 1342177280, 32, false), (0, 0, 8, 33, true), (0, 0, 2, 34, true), (536870912, 536870912, 8589934592, 35, true), (1476395008, 2147483647, 21474836480, 36, false), (2290649224, 4294967295, 36650387584, 37, true), (8589934591, 8589934591, 68719476740, 0, false)]
def c43_2_s:=drw43 c43_2 .ret b43_2 34 (fun N T M G H Y k e w =>
 M (e 3) fun t4 =>
 T (FrX none w) (xv (fieldAt 25 (e 1) 0)) fun t5 =>
 T (FrX (some []) w) (xv (loadAt 3 t5)) fun t6 =>
 M (e 3) fun t8 =>
 T (FrX none w) (xv (fieldAt 25 (e 1) 1)) fun t9 =>
 T (FrX (some []) w) (xv (loadAt 3 t9)) fun t10 =>
 M (e 3) fun t12 =>
 T (FrX none w) (xv (fieldAt 25 (e 1) 2)) fun t13 =>
 T (FrX (some []) w) (xv (loadAt 3 t13)) fun t14 =>
 M (e 3) fun t16 =>
 T (FrX none w) (xv (fieldAt 25 (e 1) 3)) fun t17 =>
 T (FrX (some []) w) (xv (loadAt 3 t17)) fun t18 =>
 M (e 3) fun t20 =>
 T (FrX none w) (xv (fieldAt 25 (e 1) 4)) fun t21 =>
 T (FrX (some []) w) (xv (loadAt 3 t21)) fun t22 =>
 M (e 3) fun t24 =>
 T (FrX none w) (xv (fieldAt 25 (e 1) 5)) fun t25 =>
 T (FrX (some []) w) (xv (loadAt 3 t25)) fun t26 =>
 M (e 3) fun t28 =>
 T (FrX none w) (xv (fieldAt 25 (e 1) 6)) fun t29 =>
 T (FrX (some []) w) (xv (loadAt 3 t29)) fun t30 =>
 M (e 3) fun t32 =>
 T (FrX none w) (xv (fieldAt 25 (e 1) 7)) fun t33 =>
 T (FrX (some []) w) (xv (loadAt 3 t33)) fun t34 =>
 N (xcall t4 [t6, (.int .i64 8), (.int .i64 1)]) w fun t7 w3 =>
 Y true (xv (loadAt 3 t33)) t34 w w3 ∧ (Y true (xv (loadAt 3 t29)) t30 w w3 ∧ (Y true (xv (loadAt 3 t25)) t26 w w3 ∧ (Y true (xv (loadAt 3 t21)) t22 w w3 ∧ (Y true (xv (loadAt 3 t17)) t18 w w3 ∧ (Y true (xv (loadAt 3 t13)) t14 w w3 ∧ (Y true (xv (loadAt 3 t9)) t10 w w3 ∧ (N (xcall t8 [t10, (.int .i64 1048576), (.int .i64 0)]) w3 fun t11 w7 =>
 Y true (xv (loadAt 3 t33)) t34 w w7 ∧ (Y true (xv (loadAt 3 t29)) t30 w w7 ∧ (Y true (xv (loadAt 3 t25)) t26 w w7 ∧ (Y true (xv (loadAt 3 t21)) t22 w w7 ∧ (Y true (xv (loadAt 3 t17)) t18 w w7 ∧ (Y true (xv (loadAt 3 t13)) t14 w w7 ∧ (N (xcall t12 [t14, (.int .i64 64), (.int .i64 1)]) w7 fun t15 w11 =>
 Y true (xv (loadAt 3 t33)) t34 w w11 ∧ (Y true (xv (loadAt 3 t29)) t30 w w11 ∧ (Y true (xv (loadAt 3 t25)) t26 w w11 ∧ (Y true (xv (loadAt 3 t21)) t22 w w11 ∧ (Y true (xv (loadAt 3 t17)) t18 w w11 ∧ (N (xcall t16 [t18, (.int .i64 256), (.int .i64 0)]) w11 fun t19 w15 =>
 Y true (xv (loadAt 3 t33)) t34 w w15 ∧ (Y true (xv (loadAt 3 t29)) t30 w w15 ∧ (Y true (xv (loadAt 3 t25)) t26 w w15 ∧ (Y true (xv (loadAt 3 t21)) t22 w w15 ∧ (N (xcall t20 [t22, (.int .i64 1024), (.int .i64 0)]) w15 fun t23 w19 =>
 Y true (xv (loadAt 3 t33)) t34 w w19 ∧ (Y true (xv (loadAt 3 t29)) t30 w w19 ∧ (Y true (xv (loadAt 3 t25)) t26 w w19 ∧ (N (xcall t24 [t26, (.int .i64 64), (.int .i64 1)]) w19 fun t27 w23 =>
 Y true (xv (loadAt 3 t33)) t34 w w23 ∧ (Y true (xv (loadAt 3 t29)) t30 w w23 ∧ (N (xcall t28 [t30, (.int .i64 256), (.int .i64 0)]) w23 fun t31 w27 =>
 Y true (xv (loadAt 3 t33)) t34 w w27 ∧ (N (xcall t32 [t34, (.int .i64 16), (.int .i64 0)]) w27 fun t35 w31 =>
 T (FrX none w31) (xv (Instr.build 25 ([(0, t7), (1, t11), (2, t15), (3, t19), (4, t23), (5, t27), (6, t31), (7, t35)]).toArray)) fun t36 =>
 N (xu (storeAt 25 (e 2) t36)) w31 fun _ w33 =>
 k e w33)))))))))))))))))))))))))))))
def c43_1_s:=reg43 c43_1 c43_2 (fun N M G k e w =>
 M (.func (.func 106) #[] #[]) fun t3 =>
 k (Env.p e 3 t3) w)
def c43_s:=reg43 c43 c43_1 (fun N M G k e w =>
 N (xv (Instr.box 25 (e 0))) w fun t1 w =>
 N (xv (Instr.alloc 25 true (.tuple #[]))) w fun t2 w =>
 k (Env.p (Env.p e 1 t1) 2 t2) w)
theorem call43 {a0 : Value} {w : World} {R : Value → World → Prop} (h : W3 Tryz.prog 37 V43 c43 (retQ Tryz.prog [.cell 2 25] R) (argE [a0]) w) : CallsN Tryz.prog 43 [a0] w R :=
 callsN_of_W3 (c := c43) (rs := [.cell 2 25]) V43 Tryz.ntmps43 (by rw [Tryz.results43]) mixed Tryz.func43 (by kernel_rfl) (by kernel_rfl) (by kernel_rfl) (by kernel_rfl) (by simp) h
def w3t_43:=w3t Tryz.prog 37 V43
def hk43 := aI @c43_2_s <| aI @c43_1_s <| aI @c43_s <| @w3t_43
-- K43: ↓hk43
/-! ### vouch/fact.Held$1 -/
def V106 : Nat → Bool := fun i => [0, 1, 2, 6].elem i
def reg106:=@s_reg Tryz.prog 12 V106
noncomputable def c106:Code:=(Tryz.f106.body.getD .skip)
noncomputable def c106_1:=cR c106
def c106_1_s:=reg106 c106_1 .ret (fun N M G k e w =>
 M (e 0) fun t7 =>
 M (e 2) fun t8 =>
 N (builtin Builtin.max #[3, 3] 3 ([false, false]).toArray ([t7, t8]).toArray) w fun t9 w =>
 M (e 1) fun t10 =>
 N (builtin Builtin.min #[3, 3] 3 ([false, false]).toArray ([t9, t10]).toArray) w fun t11 w =>
 M t11 fun t6 =>
 k (Env.p e 6 t6) w)
def c106_s:=reg106 c106 c106_1 (fun N M G k e w =>
 M (.int .i64 0) fun t6 =>
 k (Env.p e 6 t6) w)
theorem call106 {a0 a1 a2 : Value} {w : World} {R : Value → World → Prop} (h : W3 Tryz.prog 12 V106 c106 (retQ Tryz.prog [.tmp 6] R) (argE [a0, a1, a2]) w) : CallsN Tryz.prog 106 [a0, a1, a2] w R :=
 callsN_of_W3 (c := c106) (rs := [.tmp 6]) V106 Tryz.ntmps106 (by rw [Tryz.results106]) mixed Tryz.func106 (by kernel_rfl) (by kernel_rfl) (by kernel_rfl) (by kernel_rfl) (by simp) h
def w3t_106:=w3t Tryz.prog 12 V106
def hk106 := aI @c106_1_s <| aI @c106_s <| @w3t_106
-- K106: ↓hk106
/-! ### vouch/fact.Merge -/
def V113 : Nat → Bool := fun i => [0, 1, 2, 3, 4, 6, 7, 26, 30, 33, 43].elem i
def block113:=@s_block Tryz.prog 51 V113
def cond113:=@s_cond Tryz.prog 51 V113
def drw113:=@s_drw Tryz.prog 51 V113
def reg113:=@s_reg Tryz.prog 51 V113
def rend113:=@s_rend Tryz.prog 51 V113
def seq113:=@s_seq Tryz.prog 51 V113
noncomputable def c113:Code:=(Tryz.f113.body.getD .skip)
noncomputable def c113_1:=cR c113
noncomputable def c113_2:=cR c113_1
noncomputable def c113_3:=cR c113_2
noncomputable def c113_4:=cR c113_3
noncomputable def c113_5:=cL c113_3
noncomputable def c113_6:=cL c113_5
noncomputable def c113_7:=cR c113_6
noncomputable def c113_8:=cL c113_7
noncomputable def c113_9:=cR c113_7
noncomputable def b113_7:List Row:=[(0, 0, 8, 45, true), (1, 1, 17592186044416, 46, true), (0, 0, 4, 47, true), (4, 4, 70368744177664, 48, false), (10, 15, 175921860444160, 49, true), (24, 31, 281474976710656, 44, true)]
noncomputable def c113_10:=cR c113_9
noncomputable def c113_11:=cL c113_10
noncomputable def c113_12:=cL c113_2
noncomputable def c113_13:=cR c113_12
noncomputable def c113_14:=cL c113_13
noncomputable def c113_15:=cL c113_1
noncomputable def c113_16:=cR c113_15
noncomputable def c113_17:=cL c113_16
def c113_4_s:=reg113 c113_4 .ret (fun N M G k e w =>
 N (xv (loadAt 34 (e 3))) w fun t50 w =>
 N (xu (storeAt 34 (e 6) t50)) w fun _ w =>
 M (.bool true) fun t7 =>
 k (Env.p e 7 t7) w)
def c113_8_s:=rend113 c113_8 (fun N M G k e w =>
 N (xv (fieldAt 34 (e 3) 3)) w fun t37 w =>
 N (xv (loadAt 2 t37)) w fun t38 w =>
 N (xv (fieldAt 34 (e 4) 3)) w fun t39 w =>
 N (xv (loadAt 2 t39)) w fun t40 w =>
 N (builtin Builtin.max #[2, 2] 2 ([false, false]).toArray ([t38, t40]).toArray) w fun t41 w =>
 N (xv (fieldAt 34 (e 3) 3)) w fun t42 w =>
 N (xu (storeAt 2 t42 t41)) w fun _ w =>
 k e w)
def c113_11_s:=reg113 c113_11 .ret (fun N M G k e w =>
 N (xv (loadAt 34 (e 4))) w fun t49 w =>
 N (xu (storeAt 34 (e 6) t49)) w fun _ w =>
 M (.bool true) fun t7 =>
 k (Env.p e 7 t7) w)
def c113_10_s:=cond113 c113_10 .skip 43 c113_11
def c113_9_s:=drw113 c113_9 c113_10 b113_7 6 (fun N T M G H Y k e w =>
 T (FrX none w) (xv (fieldAt 34 (e 3) 3)) fun t44 =>
 T (FrX (some []) w) (xv (loadAt 2 t44)) fun t45 =>
 M (e 2) fun t46 =>
 N (xcall (.func (.func 144) #[] #[]) [t46]) w fun t47 w3 =>
 Y true (xv (loadAt 2 t44)) t45 w w3 ∧ (T (FrX none w3) (xv (xbin .leq 2 (.tmp 45) (.tmp 47) t45 t47)) fun t48 =>
 M t48 fun t43 =>
 k (Env.p e 43 t43) w3))
def c113_7_s:=cond113 c113_7 c113_9 33 c113_8
def c113_6_s:=reg113 c113_6 c113_7 (fun N M G k e w =>
 N (xv (fieldAt 34 (e 4) 3)) w fun t34 w =>
 N (xv (loadAt 2 t34)) w fun t35 w =>
 N (xv (xbin .neq 2 (.tmp 35) (.const (.int .i64 4611686018427387904)) t35 (.int .i64 4611686018427387904))) w fun t36 w =>
 M t36 fun t33 =>
 k (Env.p e 33 t33) w)
def c113_5_s:=block113 c113_5 c113_6 0
def c113_3_s:=seq113 c113_3 c113_4 c113_5
def c113_14_s:=rend113 c113_14 (fun N M G k e w =>
 N (xv (loadAt 34 (e 4))) w fun t31 w =>
 N (xv (loadAt 34 (e 3))) w fun t32 w =>
 N (xu (storeAt 34 (e 3) t31)) w fun _ w =>
 N (xu (storeAt 34 (e 4) t32)) w fun _ w =>
 k e w)
def c113_13_s:=cond113 c113_13 .skip 30 c113_14
def c113_12_s:=reg113 c113_12 c113_13 (fun N M G k e w =>
 N (xv (fieldAt 34 (e 3) 3)) w fun t28 w =>
 N (xv (loadAt 2 t28)) w fun t29 w =>
 N (xv (xbin .eql 2 (.tmp 29) (.const (.int .i64 4611686018427387904)) t29 (.int .i64 4611686018427387904))) w fun t30 w =>
 k (Env.p e 30 t30) w)
def c113_2_s:=seq113 c113_2 c113_3 c113_12
def c113_17_s:=reg113 c113_17 .ret (fun N M G k e w =>
 N (xv (Instr.build 34 ([]).toArray)) w fun t27 w =>
 N (xu (storeAt 34 (e 6) t27)) w fun _ w =>
 M (.bool false) fun t7 =>
 k (Env.p e 7 t7) w)
def c113_16_s:=cond113 c113_16 .skip 26 c113_17
def c113_15_s:=reg113 c113_15 c113_16 (fun N M G k e w =>
 N (xv (fieldAt 34 (e 3) 0)) w fun t8 w =>
 N (xv (loadAt 9 t8)) w fun t9 w =>
 N (xv (fieldAt 34 (e 4) 0)) w fun t10 w =>
 N (xv (loadAt 9 t10)) w fun t11 w =>
 N (xv (xbin .neq 9 (.tmp 9) (.tmp 11) t9 t11)) w fun t12 w =>
 M t12 fun t13 =>
 G (isB t13 false) (fun K => N (xv (fieldAt 34 (e 3) 1)) w K) (fun t14 w =>
 G (isB t13 false) (fun K => N (xv (loadAt 31 t14)) w K) (fun t15 w =>
 G (isB t13 false) (fun K => N (xv (fieldAt 34 (e 4) 1)) w K) (fun t16 w =>
 G (isB t13 false) (fun K => N (xv (loadAt 31 t16)) w K) (fun t17 w =>
 G (isB t13 false) (fun K => N (xv (xbin .neq 31 (.tmp 15) (.tmp 17) t15 t17)) w K) (fun t18 w =>
 N (xpick t13 (.bool true) t18) w fun t19 w =>
 M t19 fun t20 =>
 G (isB t20 false) (fun K => N (xv (fieldAt 34 (e 3) 2)) w K) (fun t21 w =>
 G (isB t20 false) (fun K => N (xv (loadAt 2 t21)) w K) (fun t22 w =>
 G (isB t20 false) (fun K => N (xv (fieldAt 34 (e 4) 2)) w K) (fun t23 w =>
 G (isB t20 false) (fun K => N (xv (loadAt 2 t23)) w K) (fun t24 w =>
 G (isB t20 false) (fun K => N (xv (xbin .neq 2 (.tmp 22) (.tmp 24) t22 t24)) w K) (fun t25 w =>
 N (xpick t20 (.bool true) t25) w fun t26 w =>
 k (Env.p e 26 t26) w) w) w) w) w) w) w) w) w) w) w)
def c113_1_s:=seq113 c113_1 c113_2 c113_15
def c113_s:=reg113 c113 c113_1 (fun N M G k e w =>
 N (xv (Instr.box 34 (e 0))) w fun t3 w =>
 N (xv (Instr.box 34 (e 1))) w fun t4 w =>
 N (xv (Instr.alloc 34 true (.tuple #[]))) w fun t6 w =>
 M (.bool false) fun t7 =>
 k (Env.p (Env.p (Env.p (Env.p e 3 t3) 4 t4) 6 t6) 7 t7) w)
theorem call113 {a0 a1 a2 : Value} {w : World} {R : Value → World → Prop} (h : W3 Tryz.prog 51 V113 c113 (retQ Tryz.prog [.cell 6 34, .tmp 7] R) (argE [a0, a1, a2]) w) : CallsN Tryz.prog 113 [a0, a1, a2] w R :=
 callsN_of_W3 (c := c113) (rs := [.cell 6 34, .tmp 7]) V113 Tryz.ntmps113 (by rw [Tryz.results113]) mixed Tryz.func113 (by kernel_rfl) (by kernel_rfl) (by kernel_rfl) (by kernel_rfl) (by simp) h
def w3t_113:=w3t Tryz.prog 51 V113
def hk113 := aI @c113_4_s <| aI @c113_8_s <| aI @c113_11_s <| aI @c113_10_s <| aI @c113_9_s <| aI @c113_7_s <| aI @c113_6_s <| aI @c113_5_s <| aI @c113_3_s <| aI @c113_14_s <| aI @c113_13_s <| aI @c113_12_s <| aI @c113_2_s <| aI @c113_17_s <| aI @c113_16_s <| aI @c113_15_s <| aI @c113_1_s <| aI @c113_s <| @w3t_113
-- K113: ↓hk113
/-! ### vouch/fact.Close -/
def V123 : Nat → Bool := fun i => [0, 1, 2, 4, 5, 8, 15].elem i
def cond123:=@s_cond Tryz.prog 20 V123
def reg123:=@s_reg Tryz.prog 20 V123
def seq123:=@s_seq Tryz.prog 20 V123
noncomputable def c123:Code:=(Tryz.f123.body.getD .skip)
noncomputable def c123_1:=cR c123
noncomputable def c123_2:=cR c123_1
noncomputable def c123_3:=cR c123_2
noncomputable def c123_4:=cR c123_3
noncomputable def c123_5:=cR c123_4
noncomputable def c123_6:=cL c123_3
noncomputable def c123_7:=cR c123_6
noncomputable def c123_8:=cL c123_7
noncomputable def c123_9:=cL c123_1
noncomputable def c123_10:=cR c123_9
noncomputable def c123_11:=cL c123_10
def c123_5_s:=reg123 c123_5 .ret (fun N M G k e w =>
 N (xv (loadAt 34 (e 2))) w fun t19 w =>
 N (xu (storeAt 34 (e 4) t19)) w fun _ w =>
 M (.bool true) fun t5 =>
 k (Env.p e 5 t5) w)
def c123_4_s:=reg123 c123_4 c123_5 (fun N M G k e w =>
 M (e 1) fun t17 =>
 N (xv (fieldAt 34 (e 2) 3)) w fun t18 w =>
 N (xu (storeAt 2 t18 t17)) w fun _ w =>
 k e w)
def c123_8_s:=reg123 c123_8 .ret (fun N M G k e w =>
 N (xv (Instr.build 34 ([]).toArray)) w fun t16 w =>
 N (xu (storeAt 34 (e 4) t16)) w fun _ w =>
 M (.bool false) fun t5 =>
 k (Env.p e 5 t5) w)
def c123_7_s:=cond123 c123_7 .skip 15 c123_8
def c123_6_s:=reg123 c123_6 c123_7 (fun N M G k e w =>
 M (e 1) fun t12 =>
 N (xv (fieldAt 34 (e 2) 2)) w fun t13 w =>
 N (xv (loadAt 2 t13)) w fun t14 w =>
 N (xv (xbin .leq 2 (.tmp 12) (.tmp 14) t12 t14)) w fun t15 w =>
 k (Env.p e 15 t15) w)
def c123_3_s:=seq123 c123_3 c123_4 c123_6
def c123_2_s:=reg123 c123_2 c123_3 (fun N M G k e w =>
 M (e 1) fun t10 =>
 N (builtin Builtin.min #[2, 2] 2 ([false, true]).toArray ([t10, (.int .i64 1099511627777)]).toArray) w fun t11 w =>
 M t11 fun t1 =>
 k (Env.p e 1 t1) w)
def c123_11_s:=reg123 c123_11 .ret (fun N M G k e w =>
 N (xv (loadAt 34 (e 2))) w fun t9 w =>
 N (xu (storeAt 34 (e 4) t9)) w fun _ w =>
 M (.bool true) fun t5 =>
 k (Env.p e 5 t5) w)
def c123_10_s:=cond123 c123_10 .skip 8 c123_11
def c123_9_s:=reg123 c123_9 c123_10 (fun N M G k e w =>
 N (xv (fieldAt 34 (e 2) 3)) w fun t6 w =>
 N (xv (loadAt 2 t6)) w fun t7 w =>
 N (xv (xbin .neq 2 (.tmp 7) (.const (.int .i64 4611686018427387904)) t7 (.int .i64 4611686018427387904))) w fun t8 w =>
 k (Env.p e 8 t8) w)
def c123_1_s:=seq123 c123_1 c123_2 c123_9
def c123_s:=reg123 c123 c123_1 (fun N M G k e w =>
 N (xv (Instr.box 34 (e 0))) w fun t2 w =>
 N (xv (Instr.alloc 34 true (.tuple #[]))) w fun t4 w =>
 M (.bool false) fun t5 =>
 k (Env.p (Env.p (Env.p e 2 t2) 4 t4) 5 t5) w)
theorem call123 {a0 a1 : Value} {w : World} {R : Value → World → Prop} (h : W3 Tryz.prog 20 V123 c123 (retQ Tryz.prog [.cell 4 34, .tmp 5] R) (argE [a0, a1]) w) : CallsN Tryz.prog 123 [a0, a1] w R :=
 callsN_of_W3 (c := c123) (rs := [.cell 4 34, .tmp 5]) V123 Tryz.ntmps123 (by rw [Tryz.results123]) mixed Tryz.func123 (by kernel_rfl) (by kernel_rfl) (by kernel_rfl) (by kernel_rfl) (by simp) h
def w3t_123:=w3t Tryz.prog 20 V123
def hk123 := aI @c123_5_s <| aI @c123_4_s <| aI @c123_8_s <| aI @c123_7_s <| aI @c123_6_s <| aI @c123_3_s <| aI @c123_2_s <| aI @c123_11_s <| aI @c123_10_s <| aI @c123_9_s <| aI @c123_1_s <| aI @c123_s <| @w3t_123
-- K123: ↓hk123
end
def mergeC (x y p : Int) : Int :=
 let a := if x = openI then y else x
 let b := if x = openI then x else y
 if b ≠ openI then max a b else if a ≤ p then b else a
end Go.Proofs.YtomlgkecckffeaaGreat

set_option maxRecDepth 10000
namespace Go.Proofs.YtomlgkecckffeaaGreat
open Go.VW
set_option maxHeartbeats 4000000 in
theorem note_spec {w : World} {rb gb : Nat} {R : Rcn} {n : Int} {v : Value} {ks : List ByteArray} {K : Value → World → Prop} (h : RcnAt w rb gb R) (hs : SlOf 1 encS w v ks) (ho1 : offV v rb) (ho2 : offV v gb) (hl : ks.length ≤ 9223372036854775806)
  (hK : ∀ w', Fr [rb, gb] w w' → RcnAt w' rb gb (R.note n ks) → K (.bool (!(decide (n ≤ R.last) || decide (1099511627776 < n)))) w') : CallsN Tryz.prog 67 [.pointer (some ⟨rb, 0, none⟩), .int .i64 n, v] w K := by
 have cw := cur w
 have hcap := h.cap
 obtain ⟨hr1, hr2, hr3⟩ := h.lt
 have hr3' : gb ≠ rb := fun e => hr3 e.symm
 obtain ⟨va, vc, hv⟩ := hs.form
 obtain ⟨fi, c, ring, h1, h2, h3, h4, h5⟩ := h.ex
 refine call67 ?_
 by_cases hq : n ≤ R.last ∨ 1099511627776 < n
 ·have hn : R.note n ks = R := by unfold Rcn.note; rw [if_pos hq]
  rw [hn] at hK
  by_cases q1 : n ≤ R.last
  ·have d1 : decide (n ≤ R.last) = true := decide_eq_true q1
   rw [d1] at hK
   simp (maxSteps:=9^7)(disch:=first|assumption|(simp only[dz];first|done|assumption|omega)|omega|apply_rules[Fr.refl,Fr.alloc,Fr.drew]|rfl) only [↓gd,gp,Nat.reduceAdd,Nat.reduceEqDiff, ↓hk67, h1, d1]
   exact hK _ fr_ (h.frN fr_)
  ·have d1 : decide (n ≤ R.last) = false := decide_eq_false q1
   have d2 : decide (1099511627776 < n) = true := decide_eq_true (by omega)
   rw [d1, d2] at hK
   simp (maxSteps:=9^7)(disch:=first|assumption|(simp only[dz];first|done|assumption|omega)|omega|apply_rules[Fr.refl,Fr.alloc,Fr.drew]|rfl) only [↓gd,gp,Nat.reduceAdd,Nat.reduceEqDiff, ↓hk67, h1, d1, d2]
   exact hK _ fr_ (h.frN fr_)
 have d1 : decide (n ≤ R.last) = false := decide_eq_false (by omega)
 have d2 : decide (1099511627776 < n) = false := decide_eq_false (by omega)
 have hn : R.note n ks = ks.foldl (fun R k => R.put (n, k)) { R with last := n } := by unfold Rcn.note; rw [if_neg hq]
 rw [d1, d2, hn] at hK
 simp (maxSteps:=9^7)(disch:=first|assumption|(simp only[dz];first|done|assumption|omega)|omega|apply_rules[Fr.refl,Fr.alloc,Fr.drew]|rfl) only [↓gd,gp,Nat.reduceAdd,Nat.reduceEqDiff, ↓hk67, h1, d1, d2, hv]
 rw [← hv]
 generalize hW : World.setB w rb _ = w1
 have hf1 : Fr [rb, gb] w w1 := by rw [← hW]; exact fr_
 have g1 : RcnAt w1 rb gb { R with last := n } := by
  rw [← hW]
  refine ⟨⟨fi, c, ring, ?_, ?_, h3, h4, h5⟩, hcap⟩
  ·simp (maxSteps:=9^7)(disch:=first|assumption|(simp only[dz];first|done|assumption|omega)|omega|apply_rules[Fr.refl,Fr.alloc,Fr.drew]|rfl) only [↓gsd,gs,gv,Nat.reduceAdd,Nat.reduceEqDiff]
  ·simp (maxSteps:=9^7)(disch:=first|assumption|(simp only[dz];first|done|assumption|omega)|omega|apply_rules[Fr.refl,Fr.alloc,Fr.drew]|rfl) only [↓gsd,gs,gv,Nat.reduceAdd,Nat.reduceEqDiff, h2]
 clear hW
 have cw1 := cur w1
 refine for_intro ks.length 29 0 (fun i e w' => e 0 = .pointer (some ⟨rb, 0, none⟩) ∧ e 1 = .int .i64 n ∧ e 27 = v ∧ e 28 = .int .i64 ks.length ∧ RcnAt w' rb gb ((ks.take i).foldl (fun R k => R.put (n, k)) { R with last := n }) ∧ Fr [rb, gb] w w') ?_ (Nat.zero_le _) ?_ ?_
 ·simp (maxSteps:=9^7)(disch:=first|assumption|(simp only[dz];first|done|assumption|omega)|omega|apply_rules[Fr.refl,Fr.alloc,Fr.drew]|rfl) only [↓gsd,gs,gv,Nat.reduceAdd,Nat.reduceEqDiff, Int.natCast_zero]
 ·simp (maxSteps:=9^7)(disch:=first|assumption|(simp only[dz];first|done|assumption|omega)|omega|apply_rules[Fr.refl,Fr.alloc,Fr.drew]|rfl) only [↓gsd,gs,gv,Nat.reduceAdd,Nat.reduceEqDiff, hv]
  exact ⟨g1, hf1⟩
 rintro i e w2 kk hi eS ⟨e0, e1, e27, e28, g2, hf2⟩ hkk
 have cw2 := cur w2
 by_cases hil : i < ks.length
 ·have d3 : decide ((i : Int) < (ks.length : Int)) = true := decide_eq_true (by omega)
  obtain ⟨k, hk⟩ : ∃ k, ks[i]? = some k := ⟨ks[i], List.getElem?_eq_getElem hil⟩
  have hs2 : SlOf 1 encS w2 v ks := hs.fr hf2 (by intro b hb; simp at hb; rcases hb with rfl | rfl; exact ho1; exact ho2)
  obtain ⟨b1, o1, p1, ob1, hv1, hb1, _, _, hc1⟩ := hs2.read encS_len i k hk
  have q1 := fun orig K => hc1 0 (.string k) orig K rfl
  simp only [Nat.add_zero, Nat.mul_one] at q1
  have i0 : (0 : Int) ≤ (i : Int) := by omega
  have i1 : (i : Int) < (ks.length : Int) := by omega
  have wi : IntKind.i64.wrap ((i : Int) + 1) = (i : Int) + 1 := wrap64 (by omega) (by omega)
  have ht : ks.take (i + 1) = ks.take i ++ [k] := by rw [List.take_add_one, hk]; rfl
  simp (maxSteps:=9^7)(disch:=first|assumption|(simp only[dz];first|done|assumption|omega)|omega|apply_rules[Fr.refl,Fr.alloc,Fr.drew]|rfl) only [↓gd,gp,Nat.reduceAdd,Nat.reduceEqDiff, ↓hk67, e0, e1, e27, e28, eS, hv1, d3, i0, i1, Int.toNat_natCast, Nat.mul_one, hb1, q1]
  refine rput_spec (m := (n, k)) g2 fun w3 hf3 g3 => ?_
  have cw3 := cur w3
  simp (maxSteps:=9^7)(disch:=first|assumption|(simp only[dz];first|done|assumption|omega)|omega|apply_rules[Fr.refl,Fr.alloc,Fr.drew]|rfl) only [↓gd,gp,Nat.reduceAdd,Nat.reduceEqDiff, ↓hk67, e0, e1, e27, e28, eS, wi]
  refine hkk _ _ hil rfl ?_
  simp (maxSteps:=9^7)(disch:=first|assumption|(simp only[dz];first|done|assumption|omega)|omega|apply_rules[Fr.refl,Fr.alloc,Fr.drew]|rfl) only [↓gsd,gs,gv,Nat.reduceAdd,Nat.reduceEqDiff, e0, e1, e27, e28, hv1]
  refine ⟨?_, hf2.transM hf3⟩
  rw [ht, List.foldl_append]; exact g3
 ·have d3 : decide ((i : Int) < (ks.length : Int)) = false := decide_eq_false (by omega)
  rw [List.take_of_length_le (by omega)] at g2
  simp (maxSteps:=9^7)(disch:=first|assumption|(simp only[dz];first|done|assumption|omega)|omega|apply_rules[Fr.refl,Fr.alloc,Fr.drew]|rfl) only [↓gd,gp,Nat.reduceAdd,Nat.reduceEqDiff, ↓hk67, e0, e1, e27, e28, eS, d3]
  exact hK _ hf2 g2
/-! Facts. -/
structure Cfg where
 nodes : Int
 bytes : Int
 spans : Int
 gap : Int
 recent : Int
 vers : Int
 prot : Int
 retr : Int
def encCfg (c : Cfg) : List Value := [.int .i64 c.nodes, .int .i64 c.bytes, .int .i64 c.spans, .int .i64 c.gap, .int .i64 c.recent, .int .i64 c.vers, .int .i64 c.prot, .int .i64 c.retr]
def hld (n least most : Int) : Int := min (max n least) most
def Cfg.held (c : Cfg) : Cfg := ⟨hld c.nodes 1 8, hld c.bytes 0 1048576, hld c.spans 1 64, hld c.gap 0 256, hld c.recent 0 1024, hld c.vers 1 64, hld c.prot 0 256, hld c.retr 0 16⟩
theorem heldC_spec {n hi lo : Int} {w : World} {K : Value → World → Prop} (hK : K (.int .i64 (hld n lo hi)) w) : CallsN Tryz.prog 106 [.int .i64 n, .int .i64 hi, .int .i64 lo] w K := by
 have cw := cur w
 unfold hld at hK
 refine call106 ?_
 simp (maxSteps:=9^7)(disch:=first|assumption|(simp only[dz];first|done|assumption|omega)|omega|apply_rules[Fr.refl,Fr.alloc,Fr.drew]|rfl) only [↓gd,gp,Nat.reduceAdd,Nat.reduceEqDiff, ↓hk106]
 exact hK
theorem held_spec {c : Cfg} {w : World} {K : Value → World → Prop} (hK : ∀ w', Fr [] w w' → K (.agg (encCfg c.held).toArray) w') : CallsN Tryz.prog 43 [.agg (encCfg c).toArray] w K := by
 have cw := cur w
 unfold Cfg.held encCfg at hK
 refine call43 ?_
 unfold encCfg
 simp (maxSteps:=9^7)(disch:=first|assumption|(simp only[dz];first|done|assumption|omega)|omega|apply_rules[Fr.refl,Fr.alloc,Fr.drew]|rfl) only [↓gd,gp,Nat.reduceAdd,Nat.reduceEqDiff, ↓hk43]
 iterate 8
  refine heldC_spec ?_
  try simp (maxSteps:=9^7)(disch:=first|assumption|(simp only[dz];first|done|assumption|omega)|omega|apply_rules[Fr.refl,Fr.alloc,Fr.drew]|rfl) only [↓gd,gp,Nat.reduceAdd,Nat.reduceEqDiff, ↓hk43]
 exact hK _ fr_
def closeE (e : Ent) (n : Int) : Option Ent := if e.hi ≠ openI then some e else if min n 1099511627777 ≤ e.lo then none else some { e with hi := min n 1099511627777 }
theorem close_spec {e : Ent} {n : Int} {w : World} {K : Value → World → Prop} (hK : ∀ w', Fr [] w w' → K (.tuple ([.agg (encFct ((closeE e n).getD entZ)).toArray, .bool (closeE e n).isSome] : List Value).toArray) w') : CallsN Tryz.prog 123 [.agg (encFct e).toArray, .int .i64 n] w K := by
 have cw := cur w
 unfold closeE at hK
 refine call123 ?_
 unfold encFct at hK ⊢
 by_cases q1 : e.hi = 4611686018427387904
 ·have d1 : decide (e.hi = 4611686018427387904) = true := decide_eq_true q1
  rw [if_neg (by simpa using q1)] at hK
  by_cases q2 : min n 1099511627777 ≤ e.lo
  ·have d2 : decide (min n 1099511627777 ≤ e.lo) = true := decide_eq_true q2
   rw [if_pos q2] at hK
   simp (maxSteps:=9^7)(disch:=first|assumption|(simp only[dz];first|done|assumption|omega)|omega|apply_rules[Fr.refl,Fr.alloc,Fr.drew]|rfl) only [↓gd,gp,Nat.reduceAdd,Nat.reduceEqDiff, ↓hk123, d1, d2]
   exact hK _ fr_
  ·have d2 : decide (min n 1099511627777 ≤ e.lo) = false := decide_eq_false q2
   rw [if_neg q2] at hK
   simp (maxSteps:=9^7)(disch:=first|assumption|(simp only[dz];first|done|assumption|omega)|omega|apply_rules[Fr.refl,Fr.alloc,Fr.drew]|rfl) only [↓gd,gp,Nat.reduceAdd,Nat.reduceEqDiff, ↓hk123, d1, d2]
   exact hK _ fr_
 ·have d1 : decide (e.hi = 4611686018427387904) = false := decide_eq_false q1
  rw [if_pos (by simpa using q1)] at hK
  simp (maxSteps:=9^7)(disch:=first|assumption|(simp only[dz];first|done|assumption|omega)|omega|apply_rules[Fr.refl,Fr.alloc,Fr.drew]|rfl) only [↓gd,gp,Nat.reduceAdd,Nat.reduceEqDiff, ↓hk123, d1]
  exact hK _ fr_
def mergeE (a b : Ent) (at_ : Int) : Option Ent := if (decide (a.key = b.key) && (decide (a.has = b.has) && decide (a.data = b.data)) && decide (a.lo = b.lo)) = true then some { a with hi := mergeC a.hi b.hi (behindI at_) } else none
set_option maxHeartbeats 8000000 in
theorem merge_spec {a b : Ent} {x : Int} {w : World} {K : Value → World → Prop} (hK : ∀ w', Fr [] w w' → K (.tuple ([.agg (encFct ((mergeE a b x).getD entZ)).toArray, .bool (mergeE a b x).isSome] : List Value).toArray) w') : CallsN Tryz.prog 113 [.agg (encFct a).toArray, .agg (encFct b).toArray, .int .i64 x] w K := by
 have cw := cur w
 unfold mergeE at hK
 refine call113 ?_
 unfold encFct at hK ⊢
 cases q1 : decide (a.key = b.key) with
 | false =>
   rw [q1] at hK
   simp only [Bool.false_and, Bool.false_eq_true, if_false] at hK
   simp (maxSteps:=9^7)(disch:=first|assumption|(simp only[dz];first|done|assumption|omega)|omega|apply_rules[Fr.refl,Fr.alloc,Fr.drew]|rfl) only [↓gd,gp,Nat.reduceAdd,Nat.reduceEqDiff, ↓hk113, q1]
   exact hK _ fr_
 | true =>
 cases q2 : (decide (a.has = b.has) && decide (a.data = b.data)) with
 | false =>
   rw [q1, q2] at hK
   simp only [Bool.true_and, Bool.false_and, Bool.and_false, Bool.false_eq_true, if_false] at hK
   simp (maxSteps:=9^7)(disch:=first|assumption|(simp only[dz];first|done|assumption|omega)|omega|apply_rules[Fr.refl,Fr.alloc,Fr.drew]|rfl) only [↓gd,gp,Nat.reduceAdd,Nat.reduceEqDiff, ↓hk113, q1, q2, Bool.and_true]
   exact hK _ fr_
 | true =>
 cases q3 : decide (a.lo = b.lo) with
 | false =>
   rw [q1, q2, q3] at hK
   simp only [Bool.true_and, Bool.false_and, Bool.and_false, Bool.false_eq_true, if_false] at hK
   simp (maxSteps:=9^7)(disch:=first|assumption|(simp only[dz];first|done|assumption|omega)|omega|apply_rules[Fr.refl,Fr.alloc,Fr.drew]|rfl) only [↓gd,gp,Nat.reduceAdd,Nat.reduceEqDiff, ↓hk113, q1, q2, q3, Bool.and_true]
   exact hK _ fr_
 | true =>
 rw [q1, q2, q3] at hK
 simp only [Bool.and_self, if_true, Option.getD_some, Option.isSome_some] at hK
 obtain ⟨ak, ah, ad, al, ahi, aho, ast, ain⟩ := a
 obtain ⟨bk, bh, bd, bl, bhi, bho, bst, bin⟩ := b
 simp only [decide_eq_true_eq, Bool.and_eq_true] at q1 q2 q3
 obtain ⟨q2, q2'⟩ := q2
 subst q1 q2 q2' q3
 have e1 : decide (ak = ak) = true := decide_eq_true rfl
 have e2 : decide (ah = ah) = true := decide_eq_true rfl
 have e3 : decide (ad = ad) = true := decide_eq_true rfl
 have e4 : decide (al = al) = true := decide_eq_true rfl
 unfold mergeC at hK
 simp only at hK
 by_cases h1 : ahi = 4611686018427387904
 ·have d1 : decide (ahi = 4611686018427387904) = true := decide_eq_true h1
  have d1' : decide ((4611686018427387904 : Int) = 4611686018427387904) = true := rfl
  simp only [h1, if_true, ne_eq, not_true_eq_false, if_false] at hK
  by_cases h2 : bhi ≤ behindI x
  ·have d2 : decide (bhi ≤ behindI x) = true := decide_eq_true h2
   rw [if_pos h2] at hK
   simp (maxSteps:=9^7)(disch:=first|assumption|(simp only[dz];first|done|assumption|omega)|omega|apply_rules[Fr.refl,Fr.alloc,Fr.drew]|rfl) only [↓gd,gp,Nat.reduceAdd,Nat.reduceEqDiff, ↓hk113, e1, e2, e3, e4, h1, d1']
   refine behind_spec ?_
   simp (maxSteps:=9^7)(disch:=first|assumption|(simp only[dz];first|done|assumption|omega)|omega|apply_rules[Fr.refl,Fr.alloc,Fr.drew]|rfl) only [↓gd,gp,Nat.reduceAdd,Nat.reduceEqDiff, ↓hk113, d2, h1]
   exact hK _ fr_
  ·have d2 : decide (bhi ≤ behindI x) = false := decide_eq_false h2
   rw [if_neg h2] at hK
   simp (maxSteps:=9^7)(disch:=first|assumption|(simp only[dz];first|done|assumption|omega)|omega|apply_rules[Fr.refl,Fr.alloc,Fr.drew]|rfl) only [↓gd,gp,Nat.reduceAdd,Nat.reduceEqDiff, ↓hk113, e1, e2, e3, e4, h1, d1']
   refine behind_spec ?_
   simp (maxSteps:=9^7)(disch:=first|assumption|(simp only[dz];first|done|assumption|omega)|omega|apply_rules[Fr.refl,Fr.alloc,Fr.drew]|rfl) only [↓gd,gp,Nat.reduceAdd,Nat.reduceEqDiff, ↓hk113, d2, h1]
   exact hK _ fr_
 ·have d1 : decide (ahi = 4611686018427387904) = false := decide_eq_false h1
  simp only [h1, if_false] at hK
  by_cases h3 : bhi = 4611686018427387904
  ·have d1' : decide ((4611686018427387904 : Int) = 4611686018427387904) = true := rfl
   simp only [h3, ne_eq, not_true_eq_false, if_false] at hK
   by_cases h2 : ahi ≤ behindI x
   ·have d2 : decide (ahi ≤ behindI x) = true := decide_eq_true h2
    rw [if_pos h2] at hK
    simp (maxSteps:=9^7)(disch:=first|assumption|(simp only[dz];first|done|assumption|omega)|omega|apply_rules[Fr.refl,Fr.alloc,Fr.drew]|rfl) only [↓gd,gp,Nat.reduceAdd,Nat.reduceEqDiff, ↓hk113, e1, e2, e3, e4, d1, h3, d1']
    refine behind_spec ?_
    simp (maxSteps:=9^7)(disch:=first|assumption|(simp only[dz];first|done|assumption|omega)|omega|apply_rules[Fr.refl,Fr.alloc,Fr.drew]|rfl) only [↓gd,gp,Nat.reduceAdd,Nat.reduceEqDiff, ↓hk113, d2]
    exact hK _ fr_
   ·have d2 : decide (ahi ≤ behindI x) = false := decide_eq_false h2
    rw [if_neg h2] at hK
    simp (maxSteps:=9^7)(disch:=first|assumption|(simp only[dz];first|done|assumption|omega)|omega|apply_rules[Fr.refl,Fr.alloc,Fr.drew]|rfl) only [↓gd,gp,Nat.reduceAdd,Nat.reduceEqDiff, ↓hk113, e1, e2, e3, e4, d1, h3, d1']
    refine behind_spec ?_
    simp (maxSteps:=9^7)(disch:=first|assumption|(simp only[dz];first|done|assumption|omega)|omega|apply_rules[Fr.refl,Fr.alloc,Fr.drew]|rfl) only [↓gd,gp,Nat.reduceAdd,Nat.reduceEqDiff, ↓hk113, d2]
    exact hK _ fr_
  ·have d3 : decide (bhi = 4611686018427387904) = false := decide_eq_false h3
   rw [if_pos (by simpa using h3)] at hK
   simp (maxSteps:=9^7)(disch:=first|assumption|(simp only[dz];first|done|assumption|omega)|omega|apply_rules[Fr.refl,Fr.alloc,Fr.drew]|rfl) only [↓gd,gp,Nat.reduceAdd,Nat.reduceEqDiff, ↓hk113, e1, e2, e3, e4, d1, d3]
   exact hK _ fr_
end Go.Proofs.YtomlgkecckffeaaGreat
