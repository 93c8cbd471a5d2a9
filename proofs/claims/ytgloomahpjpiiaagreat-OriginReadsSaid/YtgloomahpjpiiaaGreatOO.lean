/- The equations of the code of some functions, written by the printer gen3.py: each is checked by the kernel. -/
import Derived.Test.YtgloomahpjpiiaaGreatQ0
import Derived.Test.YtgloomahpjpiiaaGreatCI
set_option linter.unusedVariables false
set_option linter.unusedSimpArgs false
set_option maxRecDepth 100000
namespace Go.Proofs.YtgloomahpjpiiaaGreat
open Go.VW
open Go.Instr (loadAt storeAt fieldAt indexAt)
noncomputable section
set_option linter.defProp false
variable {N : NT} {T : T3T} {M : MT} {G : GT} {H : HT} {Y : YT} {k : KT} {Q : Exit → Env → World → Prop} {e el eg : Env} {w u0 u1 u2 u3 u4 u5 u6 u7 u8 u9 : World}
/-! ### vouch/origin.New -/
def V7 : Nat → Bool := fun i => [0, 1, 2].elem i
def drw7:=@s_drw Tryz.prog 13 V7
def reg7:=@s_reg Tryz.prog 13 V7
noncomputable def c7:Code:=(Tryz.f7.body.getD .skip)
noncomputable def c7_1:=cR c7
noncomputable def c7_2:=cR c7_1
noncomputable def b7_2:List Row:=[(0, 0, 2, 6, true), (0, 0, 2, 7, true), (2, 2, 64, 8, true), (4, 6, 128, 9, false), (8, 14, 0, 10, false), (0, 0, 0, 11, false), (57, 63, 1824, 12, true), (64, 127, 2048, 13, false), (255, 255, 4096, 3, true)]
def c7_2_s:=@drw7 c7_2 .ret 2 (rO (cL c7_2)) b7_2 9 (fun N T M G H Y k e w =>
 T (FrX (some []) w) (xv (loadAt 23 (e 1))) fun t5 =>
 T (FrX none w) (xv (fieldAt 23 (e 1) 5)) fun t6 =>
 T (FrX (some []) w) (xv (loadAt 3 t6)) fun t7 =>
 (N (xcall (.func (.func 26) #[] #[]) [t7]) w fun t8 w3 =>
 Y true (xv (loadAt 23 (e 1))) t5 w w3 ∧ ((N (xcall (.func (.func 27) #[] #[]) []) w3 fun t9 w4 =>
 Y true (xv (loadAt 23 (e 1))) t5 w w4 ∧ (N (xv (Instr.makeMap 78 none)) w4 fun t10 w5 =>
 Y true (xv (loadAt 23 (e 1))) t5 w w5 ∧ (T (FrX none w5) (xv (Instr.build 80 ([(0, t5), (1, t8), (2, t9), (3, t10)]).toArray)) fun t11 =>
 N (xv (Instr.box 80 t11)) w5 fun t12 w7 =>
 M t12 fun t2 =>
 k (Env.p e 2 t2) w7))) ∧ (N (xv (Instr.makeMap 78 none)) w3 fun t10 w5 =>
 Y true (xv (loadAt 23 (e 1))) t5 w w5 ∧ (N (xcall (.func (.func 27) #[] #[]) []) w5 fun t9 w4 =>
 Y true (xv (loadAt 23 (e 1))) t5 w w4 ∧ (T (FrX none w4) (xv (Instr.build 80 ([(0, t5), (1, t8), (2, t9), (3, t10)]).toArray)) fun t11 =>
 N (xv (Instr.box 80 t11)) w4 fun t12 w7 =>
 M t12 fun t2 =>
 k (Env.p e 2 t2) w7))))) ∧ (N (xv (Instr.makeMap 78 none)) w fun t10 w5 =>
 Y true (xv (loadAt 3 t6)) t7 w w5 ∧ (Y true (xv (loadAt 23 (e 1))) t5 w w5 ∧ (N (xcall (.func (.func 26) #[] #[]) [t7]) w5 fun t8 w3 =>
 Y true (xv (loadAt 23 (e 1))) t5 w w3 ∧ (N (xcall (.func (.func 27) #[] #[]) []) w3 fun t9 w4 =>
 Y true (xv (loadAt 23 (e 1))) t5 w w4 ∧ (T (FrX none w4) (xv (Instr.build 80 ([(0, t5), (1, t8), (2, t9), (3, t10)]).toArray)) fun t11 =>
 N (xv (Instr.box 80 t11)) w4 fun t12 w7 =>
 M t12 fun t2 =>
 k (Env.p e 2 t2) w7)))))) (by kernel_rfl) (by kernel_rfl) (by kernel_rfl) (by intros; kernel_rfl)
def c7_1_s:=@reg7 c7_1 c7_2 1 (rO (cL c7_1)) (fun N M G k e w =>
 N (xv (loadAt 23 (e 1))) w fun t3 w =>
 N (xcall (.func (.func 25) #[] #[]) [t3]) w fun t4 w =>
 N (xu (storeAt 23 (e 1) t4)) w fun _ w =>
 k e w) (by kernel_rfl) (by intros; kernel_rfl)
def c7_s:=@reg7 c7 c7_1 0 (rO (cL c7)) (fun N M G k e w =>
 N (xv (Instr.box 23 (e 0))) w fun t1 w =>
 M (.pointer none) fun t2 =>
 k (Env.p (Env.p e 1 t1) 2 t2) w) (by kernel_rfl) (by intros; kernel_rfl)
theorem call7 {a0 : Value} {w : World} {R : Value → World → Prop} (h : W3 Tryz.prog 13 V7 c7 (retQ Tryz.prog [.tmp 2] R) (argE [a0]) w) : CallsN Tryz.prog 7 [a0] w R :=
 callsN_of_W3 (c := c7) (rs := [.tmp 2]) V7 Tryz.ntmps7 (by rw [Tryz.results7]) mixed Tryz.func7 (by kernel_rfl) (by kernel_rfl) (by kernel_rfl) (by kernel_rfl) (by simp) h
def w3t_7:=w3t Tryz.prog 13 V7
def hk7 := aI @c7_2_s <| aI @c7_1_s <| aI @c7_s <| @w3t_7
-- K7: ↓hk7
/-! ### (*vouch/origin.Origin) . Handle -/
def V10 : Nat → Bool := fun i => [0, 1, 3, 4, 11, 13, 14, 19, 24, 29, 38].elem i
def block10:=@s_block Tryz.prog 47 V10
def cond10:=@s_cond Tryz.prog 47 V10
def drw10:=@s_drw Tryz.prog 47 V10
def reg10:=@s_reg Tryz.prog 47 V10
def seq10:=@s_seq Tryz.prog 47 V10
noncomputable def c10:Code:=(Tryz.f10.body.getD .skip)
noncomputable def c10_1:=cR c10
noncomputable def c10_2:=cR c10_1
noncomputable def c10_3:=cR c10_2
noncomputable def c10_4:=cL c10_2
noncomputable def c10_5:=cR c10_4
noncomputable def c10_6:=cL c10_5
noncomputable def c10_7:=cR c10_6
noncomputable def c10_8:=cL c10_7
noncomputable def c10_9:=cR c10_7
noncomputable def c10_10:=cR c10_9
noncomputable def c10_11:=cL c10_10
noncomputable def c10_12:=cR c10_10
noncomputable def c10_13:=cR c10_12
noncomputable def c10_14:=cL c10_13
noncomputable def c10_15:=cR c10_13
noncomputable def c10_16:=cR c10_15
noncomputable def c10_17:=cL c10_16
noncomputable def b10_11:List Row:=[(0, 0, 8, 32, true), (1, 1, 2147483648, 33, true), (0, 0, 1, 34, true), (4, 4, 8589934592, 35, true), (8, 12, 17179869184, 36, true), (16, 28, 34359738368, 37, true), (32, 60, 68719476736, 38, true), (66, 127, 141733920768, 39, true)]
noncomputable def c10_18:=cR c10_17
noncomputable def c10_19:=cL c10_18
noncomputable def b10_12:List Row:=[(0, 0, 8, 40, true), (1, 1, 549755813888, 41, true), (0, 0, 8, 42, true), (4, 4, 2199023255552, 43, true), (0, 0, 1, 44, true), (16, 16, 8796093022208, 45, false), (42, 63, 23089744183296, 46, true), (64, 127, 35184372088832, 47, false), (255, 255, 70368744177664, 5, true)]
noncomputable def c10_20:=cL c10_1
noncomputable def c10_21:=cR c10_20
noncomputable def c10_22:=cL c10_21
def c10_3_s:=@reg10 c10_3 .ret 13 (rO (cL c10_3)) (fun N M G k e w =>
 M (.slice none 0 0) fun t4 =>
 k (Env.p e 4 t4) w) (by kernel_rfl) (by intros; kernel_rfl)
def c10_8_s:=@reg10 c10_8 .ret 5 (rO (cL c10_8)) (fun N M G k e w =>
 M (e 0) fun t16 =>
 N (xv (loadAt 40 (e 3))) w fun t17 w =>
 N (xcall (.func (.func 31) #[] #[]) [t16, t17]) w fun t18 w =>
 M t18 fun t4 =>
 k (Env.p e 4 t4) w) (by kernel_rfl) (by intros; kernel_rfl)
def c10_11_s:=@reg10 c10_11 .ret 7 (rO (cL c10_11)) (fun N M G k e w =>
 M (e 0) fun t21 =>
 N (xv (loadAt 40 (e 3))) w fun t22 w =>
 N (xcall (.func (.func 32) #[] #[]) [t21, t22]) w fun t23 w =>
 M t23 fun t4 =>
 k (Env.p e 4 t4) w) (by kernel_rfl) (by intros; kernel_rfl)
def c10_14_s:=@reg10 c10_14 .ret 9 (rO (cL c10_14)) (fun N M G k e w =>
 M (e 0) fun t26 =>
 N (xv (loadAt 40 (e 3))) w fun t27 w =>
 N (xcall (.func (.func 33) #[] #[]) [t26, t27]) w fun t28 w =>
 M t28 fun t4 =>
 k (Env.p e 4 t4) w) (by kernel_rfl) (by intros; kernel_rfl)
def c10_19_s:=@drw10 c10_19 .ret 12 (rO (cL c10_19)) b10_12 9 (fun N T M G H Y k e w =>
 T (FrX none w) (xv (fieldAt 40 (e 3) 1)) fun t39 =>
 T (FrX (some []) w) (xv (loadAt 3 t39)) fun t40 =>
 T (FrX none w) (xv (fieldAt 40 (e 3) 2)) fun t41 =>
 T (FrX (some []) w) (xv (loadAt 3 t41)) fun t42 =>
 M (e 0) fun t43 =>
 N (xcall (.func (.func 12) #[] #[]) [t43]) w fun t44 w5 =>
 Y true (xv (loadAt 3 t41)) t42 w w5 ∧ (Y true (xv (loadAt 3 t39)) t40 w w5 ∧ (T (FrX none w5) (xv (Instr.build 40 ([(0, (.int .i64 11)), (1, t40), (2, t42), (11, t44)]).toArray)) fun t45 =>
 N (xv (Instr.buildSlice 24 1 ([(0, t45)]).toArray)) w5 fun t46 w7 =>
 M t46 fun t4 =>
 k (Env.p e 4 t4) w7))) (by kernel_rfl) (by kernel_rfl) (by kernel_rfl) (by intros; kernel_rfl)
def c10_18_s:=@cond10 c10_18 .skip 38 c10_19 (by kernel_rfl) (by kernel_rfl)
def c10_17_s:=@drw10 c10_17 c10_18 11 (rO (cL c10_17)) b10_11 8 (fun N T M G H Y k e w =>
 T (FrX none w) (xv (fieldAt 40 (e 3) 1)) fun t31 =>
 T (FrX (some []) w) (xv (loadAt 3 t31)) fun t32 =>
 M (e 0) fun t33 =>
 T (FrX none w) (xnil t33) fun t34 =>
 T (FrX none w) (xv (fieldAt 80 t34 0)) fun t35 =>
 T (FrX none w) (xv (fieldAt 23 t35 0)) fun t36 =>
 T (FrX (some []) w) (xv (loadAt 3 t36)) fun t37 =>
 T (FrX none w) (xv (xbin .lss 3 (.tmp 32) (.tmp 37) t32 t37)) fun t38 =>
 k (Env.p e 38 t38) w) (by kernel_rfl) (by kernel_rfl) (by kernel_rfl) (by intros; kernel_rfl)
def c10_16_s:=@cond10 c10_16 .skip 29 c10_17 (by kernel_rfl) (by kernel_rfl)
def c10_15_s:=@reg10 c10_15 c10_16 10 (rO (cL c10_15)) (fun N M G k e w =>
 N (xv (xbin .eql 3 (.tmp 13) (.const (.int .i64 10)) (e 13) (.int .i64 10))) w fun t30 w =>
 M t30 fun t29 =>
 k (Env.p e 29 t29) w) (by kernel_rfl) (by intros; kernel_rfl)
def c10_13_s:=@cond10 c10_13 c10_15 24 c10_14 (by kernel_rfl) (by kernel_rfl)
def c10_12_s:=@reg10 c10_12 c10_13 8 (rO (cL c10_12)) (fun N M G k e w =>
 N (xv (xbin .eql 3 (.tmp 13) (.const (.int .i64 9)) (e 13) (.int .i64 9))) w fun t25 w =>
 M t25 fun t24 =>
 k (Env.p e 24 t24) w) (by kernel_rfl) (by intros; kernel_rfl)
def c10_10_s:=@cond10 c10_10 c10_12 19 c10_11 (by kernel_rfl) (by kernel_rfl)
def c10_9_s:=@reg10 c10_9 c10_10 6 (rO (cL c10_9)) (fun N M G k e w =>
 N (xv (xbin .eql 3 (.tmp 13) (.const (.int .i64 5)) (e 13) (.int .i64 5))) w fun t20 w =>
 M t20 fun t19 =>
 k (Env.p e 19 t19) w) (by kernel_rfl) (by intros; kernel_rfl)
def c10_7_s:=@cond10 c10_7 c10_9 14 c10_8 (by kernel_rfl) (by kernel_rfl)
def c10_6_s:=@reg10 c10_6 c10_7 4 (rO (cL c10_6)) (fun N M G k e w =>
 N (xv (xbin .eql 3 (.tmp 13) (.const (.int .i64 1)) (e 13) (.int .i64 1))) w fun t15 w =>
 M t15 fun t14 =>
 k (Env.p e 14 t14) w) (by kernel_rfl) (by intros; kernel_rfl)
def c10_5_s:=@block10 c10_5 c10_6 0 (by kernel_rfl)
def c10_4_s:=@reg10 c10_4 c10_5 3 (rO (cL c10_4)) (fun N M G k e w =>
 N (xv (fieldAt 40 (e 3) 0)) w fun t12 w =>
 N (xv (loadAt 3 t12)) w fun t13 w =>
 k (Env.p e 13 t13) w) (by kernel_rfl) (by intros; kernel_rfl)
def c10_2_s:=@seq10 c10_2 c10_3 c10_4 (by kernel_rfl)
def c10_22_s:=@reg10 c10_22 .ret 2 (rO (cL c10_22)) (fun N M G k e w =>
 M (.slice none 0 0) fun t4 =>
 k (Env.p e 4 t4) w) (by kernel_rfl) (by intros; kernel_rfl)
def c10_21_s:=@cond10 c10_21 .skip 11 c10_22 (by kernel_rfl) (by kernel_rfl)
def c10_20_s:=@reg10 c10_20 c10_21 1 (rO (cL c10_20)) (fun N M G k e w =>
 M (e 0) fun t5 =>
 N (xv (xbin .eql 26 (.tmp 5) (.const (.pointer none)) t5 (.pointer none))) w fun t6 w =>
 M t6 fun t7 =>
 G (isB t7 false) (fun K => N (xv (loadAt 40 (e 3))) w K) (fun t8 w =>
 G (isB t7 false) (fun K => N (xcall (.func (.func 30) #[] #[]) [t8]) w K) (fun t9 w =>
 G (isB t7 false) (fun K => N (xv (xbin .neq 36 (.tmp 9) (.const (.int .i64 0)) t9 (.int .i64 0))) w K) (fun t10 w =>
 N (xpick t7 (.bool true) t10) w fun t11 w =>
 k (Env.p e 11 t11) w) w) w) w) (by kernel_rfl) (by intros; kernel_rfl)
def c10_1_s:=@seq10 c10_1 c10_2 c10_20 (by kernel_rfl)
def c10_s:=@reg10 c10 c10_1 0 (rO (cL c10)) (fun N M G k e w =>
 N (xv (Instr.box 40 (e 1))) w fun t3 w =>
 M (.slice none 0 0) fun t4 =>
 k (Env.p (Env.p e 3 t3) 4 t4) w) (by kernel_rfl) (by intros; kernel_rfl)
theorem call10 {a0 a1 : Value} {w : World} {R : Value → World → Prop} (h : W3 Tryz.prog 47 V10 c10 (retQ Tryz.prog [.tmp 4] R) (argE [a0, a1]) w) : CallsN Tryz.prog 10 [a0, a1] w R :=
 callsN_of_W3 (c := c10) (rs := [.tmp 4]) V10 Tryz.ntmps10 (by rw [Tryz.results10]) mixed Tryz.func10 (by kernel_rfl) (by kernel_rfl) (by kernel_rfl) (by kernel_rfl) (by simp) h
def w3t_10:=w3t Tryz.prog 47 V10
def hk10 := aI @c10_3_s <| aI @c10_8_s <| aI @c10_11_s <| aI @c10_14_s <| aI @c10_19_s <| aI @c10_18_s <| aI @c10_17_s <| aI @c10_16_s <| aI @c10_15_s <| aI @c10_13_s <| aI @c10_12_s <| aI @c10_10_s <| aI @c10_9_s <| aI @c10_7_s <| aI @c10_6_s <| aI @c10_5_s <| aI @c10_4_s <| aI @c10_2_s <| aI @c10_22_s <| aI @c10_21_s <| aI @c10_20_s <| aI @c10_1_s <| aI @c10_s <| @w3t_10
-- K10: ↓hk10
/-! ### (*vouch/origin.Origin) . Last -/
def V12 : Nat → Bool := fun i => [0, 2, 4].elem i
def cond12:=@s_cond Tryz.prog 10 V12
def reg12:=@s_reg Tryz.prog 10 V12
def seq12:=@s_seq Tryz.prog 10 V12
noncomputable def c12:Code:=(Tryz.f12.body.getD .skip)
noncomputable def c12_1:=cR c12
noncomputable def c12_2:=cR c12_1
noncomputable def c12_3:=cL c12_1
noncomputable def c12_4:=cR c12_3
noncomputable def c12_5:=cL c12_4
def c12_2_s:=@reg12 c12_2 .ret 3 (rO (cL c12_2)) (fun N M G k e w =>
 M (e 0) fun t5 =>
 N (xnil t5) w fun t6 w =>
 N (xv (fieldAt 80 t6 1)) w fun t7 w =>
 N (xv (loadAt 74 t7)) w fun t8 w =>
 N (xcall (.func (.func 37) #[] #[]) [t8]) w fun t9 w =>
 M t9 fun t2 =>
 k (Env.p e 2 t2) w) (by kernel_rfl) (by intros; kernel_rfl)
def c12_5_s:=@reg12 c12_5 .ret 2 (rO (cL c12_5)) (fun N M G k e w =>
 M (.int .i64 0) fun t2 =>
 k (Env.p e 2 t2) w) (by kernel_rfl) (by intros; kernel_rfl)
def c12_4_s:=@cond12 c12_4 .skip 4 c12_5 (by kernel_rfl) (by kernel_rfl)
def c12_3_s:=@reg12 c12_3 c12_4 1 (rO (cL c12_3)) (fun N M G k e w =>
 M (e 0) fun t3 =>
 N (xv (xbin .eql 26 (.tmp 3) (.const (.pointer none)) t3 (.pointer none))) w fun t4 w =>
 k (Env.p e 4 t4) w) (by kernel_rfl) (by intros; kernel_rfl)
def c12_1_s:=@seq12 c12_1 c12_2 c12_3 (by kernel_rfl)
def c12_s:=@reg12 c12 c12_1 0 (rO (cL c12)) (fun N M G k e w =>
 M (.int .i64 0) fun t2 =>
 k (Env.p e 2 t2) w) (by kernel_rfl) (by intros; kernel_rfl)
theorem call12 {a0 : Value} {w : World} {R : Value → World → Prop} (h : W3 Tryz.prog 10 V12 c12 (retQ Tryz.prog [.tmp 2] R) (argE [a0]) w) : CallsN Tryz.prog 12 [a0] w R :=
 callsN_of_W3 (c := c12) (rs := [.tmp 2]) V12 Tryz.ntmps12 (by rw [Tryz.results12]) mixed Tryz.func12 (by kernel_rfl) (by kernel_rfl) (by kernel_rfl) (by kernel_rfl) (by simp) h
def w3t_12:=w3t Tryz.prog 10 V12
def hk12 := aI @c12_2_s <| aI @c12_5_s <| aI @c12_4_s <| aI @c12_3_s <| aI @c12_1_s <| aI @c12_s <| @w3t_12
-- K12: ↓hk12
/-! ### (*vouch/origin.Origin) . Records -/
def V14 : Nat → Bool := fun i => [0, 1, 2, 6, 8].elem i
def cond14:=@s_cond Tryz.prog 16 V14
def reg14:=@s_reg Tryz.prog 16 V14
def seq14:=@s_seq Tryz.prog 16 V14
noncomputable def c14:Code:=(Tryz.f14.body.getD .skip)
noncomputable def c14_1:=cR c14
noncomputable def c14_2:=cR c14_1
noncomputable def c14_3:=cL c14_1
noncomputable def c14_4:=cR c14_3
noncomputable def c14_5:=cL c14_4
def c14_2_s:=@reg14 c14_2 .ret 3 (rO (cL c14_2)) (fun N M G k e w =>
 M (e 0) fun t9 =>
 N (xnil t9) w fun t10 w =>
 N (xv (fieldAt 80 t10 2)) w fun t11 w =>
 N (xv (loadAt 76 t11)) w fun t12 w =>
 M (e 1) fun t13 =>
 M (e 2) fun t14 =>
 N (xcall (.func (.func 39) #[] #[]) [t12, t13, t14]) w fun t15 w =>
 M t15 fun t6 =>
 k (Env.p e 6 t6) w) (by kernel_rfl) (by intros; kernel_rfl)
def c14_5_s:=@reg14 c14_5 .ret 2 (rO (cL c14_5)) (fun N M G k e w =>
 M (.slice none 0 0) fun t6 =>
 k (Env.p e 6 t6) w) (by kernel_rfl) (by intros; kernel_rfl)
def c14_4_s:=@cond14 c14_4 .skip 8 c14_5 (by kernel_rfl) (by kernel_rfl)
def c14_3_s:=@reg14 c14_3 c14_4 1 (rO (cL c14_3)) (fun N M G k e w =>
 M (e 0) fun t7 =>
 N (xv (xbin .eql 26 (.tmp 7) (.const (.pointer none)) t7 (.pointer none))) w fun t8 w =>
 k (Env.p e 8 t8) w) (by kernel_rfl) (by intros; kernel_rfl)
def c14_1_s:=@seq14 c14_1 c14_2 c14_3 (by kernel_rfl)
def c14_s:=@reg14 c14 c14_1 0 (rO (cL c14)) (fun N M G k e w =>
 M (.slice none 0 0) fun t6 =>
 k (Env.p e 6 t6) w) (by kernel_rfl) (by intros; kernel_rfl)
theorem call14 {a0 a1 a2 : Value} {w : World} {R : Value → World → Prop} (h : W3 Tryz.prog 16 V14 c14 (retQ Tryz.prog [.tmp 6] R) (argE [a0, a1, a2]) w) : CallsN Tryz.prog 14 [a0, a1, a2] w R :=
 callsN_of_W3 (c := c14) (rs := [.tmp 6]) V14 Tryz.ntmps14 (by rw [Tryz.results14]) mixed Tryz.func14 (by kernel_rfl) (by kernel_rfl) (by kernel_rfl) (by kernel_rfl) (by simp) h
def w3t_14:=w3t Tryz.prog 16 V14
def hk14 := aI @c14_2_s <| aI @c14_5_s <| aI @c14_4_s <| aI @c14_3_s <| aI @c14_1_s <| aI @c14_s <| @w3t_14
-- K14: ↓hk14
/-! ### (*vouch/origin.Origin) . Oldest -/
-- K18: ↓hk18
/-! ### (*vouch/origin.Origin) . Read -/
-- K16: ↓hk16
/-! ### (*vouch/origin.Origin) . commit -/
def V31 : Nat → Bool := fun i => [0, 1, 3, 4, 5, 6, 7, 8, 9, 10, 11, 13, 14, 26, 32, 64, 67, 68, 69, 70, 89, 90, 91].elem i
def block31:=@s_block Tryz.prog 101 V31
def cond31:=@s_cond Tryz.prog 101 V31
def drw31:=@s_drw Tryz.prog 101 V31
def loop31:=@s_loop Tryz.prog 101 V31
def reg31:=@s_reg Tryz.prog 101 V31
def rend31:=@s_rend Tryz.prog 101 V31
def seq31:=@s_seq Tryz.prog 101 V31
noncomputable def c31:Code:=(Tryz.f31.body.getD .skip)
noncomputable def c31_1:=cR c31
noncomputable def b31_1:List Row:=[(0, 0, 1, 16, true), (1, 1, 32768, 17, true), (2, 3, 65536, 18, true), (4, 7, 131072, 19, true), (0, 0, 8, 20, true), (16, 16, 524288, 21, true), (40, 63, 1310720, 22, true), (0, 0, 0, 6, false), (255, 255, 2097184, 0, false)]
noncomputable def c31_2:=cR c31_1
noncomputable def c31_3:=cR c31_2
noncomputable def c31_4:=cR c31_3
noncomputable def c31_5:=cR c31_4
noncomputable def b31_7:List Row:=[(0, 0, 1, 39, true), (1, 1, 274877906944, 40, true), (2, 3, 549755813888, 41, true), (4, 7, 1099511627776, 42, true), (0, 0, 8, 43, true), (16, 16, 4398046511104, 44, true), (40, 63, 10995116277760, 45, false), (64, 127, 17592186044416, 38, true), (128, 255, 137438953472, 46, true), (128, 255, 137438953472, 47, true), (511, 511, 35184372088832, 8, true), (2047, 2047, 70368744177664, 9, true)]
noncomputable def c31_6:=cR c31_5
noncomputable def c31_7:=cR c31_6
noncomputable def b31_9:List Row:=[(0, 0, 1, 53, true), (1, 1, 4503599627370496, 54, true), (2, 3, 9007199254740992, 55, true), (4, 7, 18014398509481984, 56, true), (0, 0, 8, 57, true), (16, 16, 72057594037927936, 58, true), (0, 0, 512, 59, true), (127, 127, 468374361246531584, 0, false)]
noncomputable def c31_8:=cR c31_7
noncomputable def c31_9:=cR c31_8
noncomputable def c31_10:=cR c31_9
noncomputable def c31_11:=cR c31_10
noncomputable def c31_12:=cR c31_11
noncomputable def c31_13:=cR c31_12
noncomputable def c31_14:=cR c31_13
noncomputable def c31_15:=cL c31_13
noncomputable def c31_16:=cR c31_15
noncomputable def c31_17:=cL c31_16
noncomputable def c31_18:=cL c31_17
noncomputable def c31_19:=cR c31_18
noncomputable def c31_20:=cR c31_19
noncomputable def c31_21:=cR c31_20
noncomputable def c31_22:=cL c31_20
noncomputable def c31_23:=cL c31_22
noncomputable def c31_24:=cR c31_23
noncomputable def c31_25:=cL c31_19
noncomputable def c31_26:=cL c31_11
noncomputable def c31_27:=cR c31_26
noncomputable def c31_28:=cL c31_27
noncomputable def c31_29:=cL c31_28
noncomputable def c31_30:=cR c31_29
noncomputable def c31_31:=cR c31_30
noncomputable def c31_32:=cR c31_31
noncomputable def c31_33:=cL c31_31
noncomputable def c31_34:=cL c31_33
noncomputable def c31_35:=cR c31_34
noncomputable def c31_36:=cL c31_30
noncomputable def c31_37:=cL c31_9
noncomputable def c31_38:=cR c31_37
noncomputable def c31_39:=cL c31_38
noncomputable def c31_40:=cL c31_4
noncomputable def c31_41:=cR c31_40
noncomputable def c31_42:=cL c31_41
noncomputable def c31_43:=cL c31_2
noncomputable def c31_44:=cR c31_43
noncomputable def c31_45:=cL c31_44
def c31_14_s:=@reg31 c31_14 .ret 25 (rO (cL c31_14)) (fun N M G k e w =>
 M (e 10) fun t100 =>
 M t100 fun t4 =>
 k (Env.p e 4 t4) w) (by kernel_rfl) (by intros; kernel_rfl)
def c31_21_s:=@rend31 c31_21 24 (rO c31_21) (fun N M G k e w =>
 N (xv (xbin .add 3 (.tmp 90) (.const (.int .i64 1)) (e 90) (.int .i64 1))) w fun t99 w =>
 M t99 fun t90 =>
 k (Env.p e 90 t90) w) (by kernel_rfl) (by intros; kernel_rfl)
def c31_24_s:=@rend31 c31_24 23 (rO c31_24) (fun N M G k e w =>
 M (e 10) fun t93 =>
 M (e 0) fun t94 =>
 M (e 14) fun t95 =>
 M (e 7) fun t96 =>
 N (xcall (.func (.func 58) #[] #[]) [t94, t95, t96, (.int .i64 1)]) w fun t97 w =>
 N (builtin Builtin.append #[24, 24] 24 ([false, false]).toArray ([t93, t97]).toArray) w fun t98 w =>
 M t98 fun t10 =>
 k (Env.p e 10 t10) w) (by kernel_rfl) (by intros; kernel_rfl)
def c31_23_s:=@reg31 c31_23 c31_24 22 (rO (cL c31_23)) (fun N M G k e w =>
 M (e 90) fun t92 =>
 M t92 fun t14 =>
 k (Env.p e 14 t14) w) (by kernel_rfl) (by intros; kernel_rfl)
def c31_22_s:=@block31 c31_22 c31_23 3 (by kernel_rfl)
def c31_20_s:=@seq31 c31_20 c31_21 c31_22 (by kernel_rfl)
def c31_25_s:=@cond31 c31_25 (.exit 2) 91 .skip (by kernel_rfl) (by kernel_rfl)
def c31_19_s:=@seq31 c31_19 c31_20 c31_25 (by kernel_rfl)
def c31_18_s:=@reg31 c31_18 c31_19 21 (rO (cL c31_18)) (fun N M G k e w =>
 N (xv (xbin .lss 3 (.tmp 90) (.tmp 89) (e 90) (e 89))) w fun t91 w =>
 k (Env.p e 91 t91) w) (by kernel_rfl) (by intros; kernel_rfl)
def c31_17_s:=@loop31 c31_17 c31_18 (by kernel_rfl)
def c31_16_s:=@block31 c31_16 c31_17 2 (by kernel_rfl)
def c31_15_s:=@reg31 c31_15 c31_16 20 (rO (cL c31_15)) (fun N M G k e w =>
 M (e 0) fun t85 =>
 N (xnil t85) w fun t86 w =>
 N (xv (fieldAt 80 t86 0)) w fun t87 w =>
 N (xv (fieldAt 23 t87 0)) w fun t88 w =>
 N (xv (loadAt 3 t88)) w fun t89 w =>
 M (.int .i64 0) fun t90 =>
 k (Env.p (Env.p e 89 t89) 90 t90) w) (by kernel_rfl) (by intros; kernel_rfl)
def c31_13_s:=@seq31 c31_13 c31_14 c31_15 (by kernel_rfl)
def c31_12_s:=@reg31 c31_12 c31_13 19 (rO (cL c31_12)) (fun N M G k e w =>
 M (e 0) fun t79 =>
 N (xnil t79) w fun t80 w =>
 N (xv (fieldAt 80 t80 2)) w fun t81 w =>
 N (xv (loadAt 76 t81)) w fun t82 w =>
 M (e 11) fun t83 =>
 N (xcall (.func (.func 57) #[] #[]) [t82, t83]) w fun t84 w =>
 k e w) (by kernel_rfl) (by intros; kernel_rfl)
def c31_32_s:=@rend31 c31_32 18 (rO c31_32) (fun N M G k e w =>
 N (xv (xbin .add 3 (.tmp 69) (.const (.int .i64 1)) (e 69) (.int .i64 1))) w fun t78 w =>
 M t78 fun t69 =>
 k (Env.p e 69 t69) w) (by kernel_rfl) (by intros; kernel_rfl)
def c31_35_s:=@rend31 c31_35 17 (rO c31_35) (fun N M G k e w =>
 M (e 11) fun t73 =>
 N (xv (fieldAt 66 (e 13) 0)) w fun t74 w =>
 N (xv (loadAt 9 t74)) w fun t75 w =>
 N (xv (Instr.buildSlice 38 1 ([(0, t75)]).toArray)) w fun t76 w =>
 N (builtin Builtin.append #[38, 38] 38 ([false, false]).toArray ([t73, t76]).toArray) w fun t77 w =>
 M t77 fun t11 =>
 k (Env.p e 11 t11) w) (by kernel_rfl) (by intros; kernel_rfl)
def c31_34_s:=@reg31 c31_34 c31_35 16 (rO (cL c31_34)) (fun N M G k e w =>
 N (xv (indexAt 37 (e 67) (e 69))) w fun t71 w =>
 N (xv (loadAt 66 t71)) w fun t72 w =>
 N (xv (Instr.alloc 66 true (.tuple #[]))) w fun t13 w =>
 N (xu (storeAt 66 t13 t72)) w fun _ w =>
 k (Env.p e 13 t13) w) (by kernel_rfl) (by intros; kernel_rfl)
def c31_33_s:=@block31 c31_33 c31_34 1 (by kernel_rfl)
def c31_31_s:=@seq31 c31_31 c31_32 c31_33 (by kernel_rfl)
def c31_36_s:=@cond31 c31_36 (.exit 0) 70 .skip (by kernel_rfl) (by kernel_rfl)
def c31_30_s:=@seq31 c31_30 c31_31 c31_36 (by kernel_rfl)
def c31_29_s:=@reg31 c31_29 c31_30 15 (rO (cL c31_29)) (fun N M G k e w =>
 N (xv (xbin .lss 3 (.tmp 69) (.tmp 68) (e 69) (e 68))) w fun t70 w =>
 k (Env.p e 70 t70) w) (by kernel_rfl) (by intros; kernel_rfl)
def c31_28_s:=@loop31 c31_28 c31_29 (by kernel_rfl)
def c31_27_s:=@block31 c31_27 c31_28 0 (by kernel_rfl)
def c31_26_s:=@reg31 c31_26 c31_27 14 (rO (cL c31_26)) (fun N M G k e w =>
 N (xv (fieldAt 40 (e 3) 12)) w fun t66 w =>
 N (xv (loadAt 37 t66)) w fun t67 w =>
 N (builtin Builtin.len #[37] 3 ([false]).toArray ([t67]).toArray) w fun t68 w =>
 M (.int .i64 0) fun t69 =>
 k (Env.p (Env.p (Env.p e 67 t67) 68 t68) 69 t69) w) (by kernel_rfl) (by intros; kernel_rfl)
def c31_11_s:=@seq31 c31_11 c31_12 c31_26 (by kernel_rfl)
def c31_10_s:=@reg31 c31_10 c31_11 13 (rO (cL c31_10)) (fun N M G k e w =>
 M (.slice none 0 0) fun t11 =>
 k (Env.p e 11 t11) w) (by kernel_rfl) (by intros; kernel_rfl)
def c31_39_s:=@reg31 c31_39 .ret 12 (rO (cL c31_39)) (fun N M G k e w =>
 M (e 10) fun t65 =>
 M t65 fun t4 =>
 k (Env.p e 4 t4) w) (by kernel_rfl) (by intros; kernel_rfl)
def c31_38_s:=@cond31 c31_38 .skip 64 c31_39 (by kernel_rfl) (by kernel_rfl)
def c31_37_s:=@reg31 c31_37 c31_38 11 (rO (cL c31_37)) (fun N M G k e w =>
 M (e 8) fun t63 =>
 N (xv (xbin .neq 36 (.tmp 63) (.const (.int .i64 0)) t63 (.int .i64 0))) w fun t64 w =>
 k (Env.p e 64 t64) w) (by kernel_rfl) (by intros; kernel_rfl)
def c31_9_s:=@seq31 c31_9 c31_10 c31_37 (by kernel_rfl)
def c31_8_s:=@reg31 c31_8 c31_9 10 (rO (cL c31_8)) (fun N M G k e w =>
 M (e 6) fun t59 =>
 N (xv (loadAt 99 (e 9))) w fun t60 w =>
 N (xcall t59 [t60]) w fun t61 w =>
 N (xv (Instr.buildSlice 24 1 ([(0, t61)]).toArray)) w fun t62 w =>
 M t62 fun t10 =>
 k (Env.p e 10 t10) w) (by kernel_rfl) (by intros; kernel_rfl)
def c31_7_s:=@drw31 c31_7 c31_8 9 (rO (cL c31_7)) b31_9 8 (fun N T M G H Y k e w =>
 M (e 0) fun t52 =>
 T (FrX none w) (xnil t52) fun t53 =>
 T (FrX none w) (xv (fieldAt 80 t53 3)) fun t54 =>
 T (FrX (some []) w) (xv (loadAt 78 t54)) fun t55 =>
 T (FrX none w) (xv (fieldAt 40 (e 3) 3)) fun t56 =>
 T (FrX (some []) w) (xv (loadAt 3 t56)) fun t57 =>
 T (FrX (some []) w) (xv (loadAt 99 (e 9))) fun t58 =>
 N (xu (Instr.mapUpdate 78 t55 t57 t58)) w fun _ w7 =>
 k e w7) (by kernel_rfl) (by kernel_rfl) (by kernel_rfl) (by intros; kernel_rfl)
def c31_6_s:=@reg31 c31_6 c31_7 8 (rO (cL c31_6)) (fun N M G k e w =>
 N (xv (fieldAt 40 (e 3) 5)) w fun t47 w =>
 N (xv (loadAt 3 t47)) w fun t48 w =>
 M (e 7) fun t49 =>
 M (e 8) fun t50 =>
 N (xv (Instr.build 99 ([(0, t48), (1, t49), (2, t50)]).toArray)) w fun t51 w =>
 N (xv (Instr.alloc 99 true (.tuple #[]))) w fun t9 w =>
 N (xu (storeAt 99 t9 t51)) w fun _ w =>
 k (Env.p e 9 t9) w) (by kernel_rfl) (by intros; kernel_rfl)
def c31_5_s:=@drw31 c31_5 c31_6 7 (rO (cL c31_5)) b31_7 12 (fun N T M G H Y k e w =>
 M (e 0) fun t38 =>
 T (FrX none w) (xnil t38) fun t39 =>
 T (FrX none w) (xv (fieldAt 80 t39 1)) fun t40 =>
 T (FrX (some []) w) (xv (loadAt 74 t40)) fun t41 =>
 T (FrX none w) (xv (fieldAt 40 (e 3) 12)) fun t42 =>
 T (FrX (some []) w) (xv (loadAt 37 t42)) fun t43 =>
 N (xcall (.func (.func 56) #[] #[]) [t41, t43]) w fun t44 w6 =>
 M t44 fun t37 =>
 T (FrX none w6) (xv (Instr.extract t37 0)) fun t45 =>
 T (FrX none w6) (xv (Instr.extract t37 1)) fun t46 =>
 M t45 fun t7 =>
 M t46 fun t8 =>
 k (Env.p (Env.p e 7 t7) 8 t8) w6) (by kernel_rfl) (by kernel_rfl) (by kernel_rfl) (by intros; kernel_rfl)
def c31_42_s:=@reg31 c31_42 .ret 6 (rO (cL c31_42)) (fun N M G k e w =>
 M (e 6) fun t33 =>
 N (xv (loadAt 99 (e 5))) w fun t34 w =>
 N (xcall t33 [t34]) w fun t35 w =>
 N (xv (Instr.buildSlice 24 1 ([(0, t35)]).toArray)) w fun t36 w =>
 M t36 fun t4 =>
 k (Env.p e 4 t4) w) (by kernel_rfl) (by intros; kernel_rfl)
def c31_41_s:=@cond31 c31_41 .skip 32 c31_42 (by kernel_rfl) (by kernel_rfl)
def c31_40_s:=@reg31 c31_40 c31_41 5 (rO (cL c31_40)) (fun N M G k e w =>
 N (xv (fieldAt 40 (e 3) 5)) w fun t28 w =>
 N (xv (loadAt 3 t28)) w fun t29 w =>
 N (xv (fieldAt 99 (e 5) 0)) w fun t30 w =>
 N (xv (loadAt 3 t30)) w fun t31 w =>
 N (xv (xbin .eql 3 (.tmp 29) (.tmp 31) t29 t31)) w fun t32 w =>
 k (Env.p e 32 t32) w) (by kernel_rfl) (by intros; kernel_rfl)
def c31_4_s:=@seq31 c31_4 c31_5 c31_40 (by kernel_rfl)
def c31_3_s:=@reg31 c31_3 c31_4 4 (rO (cL c31_3)) (fun N M G k e w =>
 N (xv (Instr.makeFunc (Fn.func 55) ([]).toArray ([(e 3)]).toArray)) w fun t27 w =>
 M t27 fun t6 =>
 k (Env.p e 6 t6) w) (by kernel_rfl) (by intros; kernel_rfl)
def c31_45_s:=@reg31 c31_45 .ret 3 (rO (cL c31_45)) (fun N M G k e w =>
 M (.slice none 0 0) fun t4 =>
 k (Env.p e 4 t4) w) (by kernel_rfl) (by intros; kernel_rfl)
def c31_44_s:=@cond31 c31_44 .skip 26 c31_45 (by kernel_rfl) (by kernel_rfl)
def c31_43_s:=@reg31 c31_43 c31_44 2 (rO (cL c31_43)) (fun N M G k e w =>
 N (xv (fieldAt 40 (e 3) 5)) w fun t22 w =>
 N (xv (loadAt 3 t22)) w fun t23 w =>
 N (xv (fieldAt 99 (e 5) 0)) w fun t24 w =>
 N (xv (loadAt 3 t24)) w fun t25 w =>
 N (xv (xbin .lss 3 (.tmp 23) (.tmp 25) t23 t25)) w fun t26 w =>
 k (Env.p e 26 t26) w) (by kernel_rfl) (by intros; kernel_rfl)
def c31_2_s:=@seq31 c31_2 c31_3 c31_43 (by kernel_rfl)
def c31_1_s:=@drw31 c31_1 c31_2 1 (rO (cL c31_1)) b31_1 9 (fun N T M G H Y k e w =>
 M (e 0) fun t15 =>
 T (FrX none w) (xnil t15) fun t16 =>
 T (FrX none w) (xv (fieldAt 80 t16 3)) fun t17 =>
 T (FrX (some []) w) (xv (loadAt 78 t17)) fun t18 =>
 T (FrX none w) (xv (fieldAt 40 (e 3) 3)) fun t19 =>
 T (FrX (some []) w) (xv (loadAt 3 t19)) fun t20 =>
 T (FrX (some []) w) (xv (Instr.lookup 78 t18 t20 false)) fun t21 =>
 N (xv (Instr.alloc 99 true (.tuple #[]))) w fun t5 w7 =>
 Y true (xv (Instr.lookup 78 t18 t20 false)) t21 w w7 ∧ (Y true (xv (loadAt 3 t19)) t20 w w7 ∧ (Y true (xv (loadAt 78 t17)) t18 w w7 ∧ (N (xu (storeAt 99 t5 t21)) w7 fun _ w8 =>
 k (Env.p e 5 t5) w8)))) (by kernel_rfl) (by kernel_rfl) (by kernel_rfl) (by intros; kernel_rfl)
def c31_s:=@reg31 c31 c31_1 0 (rO (cL c31)) (fun N M G k e w =>
 N (xv (Instr.box 40 (e 1))) w fun t3 w =>
 M (.slice none 0 0) fun t4 =>
 k (Env.p (Env.p e 3 t3) 4 t4) w) (by kernel_rfl) (by intros; kernel_rfl)
theorem call31 {a0 a1 : Value} {w : World} {R : Value → World → Prop} (h : W3 Tryz.prog 101 V31 c31 (retQ Tryz.prog [.tmp 4] R) (argE [a0, a1]) w) : CallsN Tryz.prog 31 [a0, a1] w R :=
 callsN_of_W3 (c := c31) (rs := [.tmp 4]) V31 Tryz.ntmps31 (by rw [Tryz.results31]) mixed Tryz.func31 (by kernel_rfl) (by kernel_rfl) (by kernel_rfl) (by kernel_rfl) (by simp) h
def w3t_31:=w3t Tryz.prog 101 V31
def hk31 := aI @c31_14_s <| aI @c31_21_s <| aI @c31_24_s <| aI @c31_23_s <| aI @c31_22_s <| aI @c31_20_s <| aI @c31_25_s <| aI @c31_19_s <| aI @c31_18_s <| aI @c31_17_s <| aI @c31_16_s <| aI @c31_15_s <| aI @c31_13_s <| aI @c31_12_s <| aI @c31_32_s <| aI @c31_35_s <| aI @c31_34_s <| aI @c31_33_s <| aI @c31_31_s <| aI @c31_36_s <| aI @c31_30_s <| aI @c31_29_s <| aI @c31_28_s <| aI @c31_27_s <| aI @c31_26_s <| aI @c31_11_s <| aI @c31_10_s <| aI @c31_39_s <| aI @c31_38_s <| aI @c31_37_s <| aI @c31_9_s <| aI @c31_8_s <| aI @c31_7_s <| aI @c31_6_s <| aI @c31_5_s <| aI @c31_42_s <| aI @c31_41_s <| aI @c31_40_s <| aI @c31_4_s <| aI @c31_3_s <| aI @c31_45_s <| aI @c31_44_s <| aI @c31_43_s <| aI @c31_2_s <| aI @c31_1_s <| aI @c31_s <| @w3t_31
-- K31: ↓hk31
/-! ### (*vouch/origin.Origin) . commit$1 -/
def V55 : Nat → Bool := fun i => [0, 1, 2, 3].elem i
def reg55:=@s_reg Tryz.prog 13 V55
noncomputable def c55:Code:=(Tryz.f55.body.getD .skip)
noncomputable def c55_1:=cR c55
def c55_1_s:=@reg55 c55_1 .ret 1 (rO (cL c55_1)) (fun N M G k e w =>
 N (xv (fieldAt 40 (e 1) 3)) w fun t4 w =>
 N (xv (loadAt 3 t4)) w fun t5 w =>
 N (xv (fieldAt 40 (e 1) 5)) w fun t6 w =>
 N (xv (loadAt 3 t6)) w fun t7 w =>
 N (xv (fieldAt 99 (e 2) 1)) w fun t8 w =>
 N (xv (loadAt 2 t8)) w fun t9 w =>
 N (xv (fieldAt 99 (e 2) 2)) w fun t10 w =>
 N (xv (loadAt 36 t10)) w fun t11 w =>
 N (xv (Instr.build 40 ([(0, (.int .i64 2)), (3, t5), (5, t7), (11, t9), (10, t11)]).toArray)) w fun t12 w =>
 N (xu (storeAt 40 (e 3) t12)) w fun _ w =>
 k e w) (by kernel_rfl) (by intros; kernel_rfl)
def c55_s:=@reg55 c55 c55_1 0 (rO (cL c55)) (fun N M G k e w =>
 N (xv (Instr.box 99 (e 0))) w fun t2 w =>
 N (xv (Instr.alloc 40 true (.tuple #[]))) w fun t3 w =>
 k (Env.p (Env.p e 2 t2) 3 t3) w) (by kernel_rfl) (by intros; kernel_rfl)
theorem call55 {a0 a1 : Value} {w : World} {R : Value → World → Prop} (h : W3 Tryz.prog 13 V55 c55 (retQ Tryz.prog [.cell 3 40] R) (argE [a0, a1]) w) : CallsN Tryz.prog 55 [a0, a1] w R :=
 callsN_of_W3 (c := c55) (rs := [.cell 3 40]) V55 Tryz.ntmps55 (by rw [Tryz.results55]) mixed Tryz.func55 (by kernel_rfl) (by kernel_rfl) (by kernel_rfl) (by kernel_rfl) (by simp) h
def w3t_55:=w3t Tryz.prog 13 V55
def hk55 := aI @c55_1_s <| aI @c55_s <| @w3t_55
-- K55: ↓hk55
/-! ### (*vouch/origin.Origin) . read -/
def V32 : Nat → Bool := fun i => [0, 1, 3, 4, 5, 6, 7, 8, 9, 21, 42].elem i
def cond32:=@s_cond Tryz.prog 81 V32
def drw32:=@s_drw Tryz.prog 81 V32
def reg32:=@s_reg Tryz.prog 81 V32
def seq32:=@s_seq Tryz.prog 81 V32
noncomputable def c32:Code:=(Tryz.f32.body.getD .skip)
noncomputable def c32_1:=cR c32
noncomputable def c32_2:=cR c32_1
noncomputable def c32_3:=cR c32_2
noncomputable def c32_4:=cR c32_3
noncomputable def b32_6:List Row:=[(0, 0, 1, 27, true), (1, 1, 67108864, 28, true), (2, 3, 134217728, 29, true), (4, 7, 268435456, 30, true), (0, 0, 8, 31, true), (16, 16, 1073741824, 32, true), (0, 0, 8, 33, true), (64, 64, 4294967296, 34, true), (128, 192, 8589934592, 35, true), (256, 448, 17179869184, 36, true), (0, 0, 32, 37, true), (1536, 1984, 103079215104, 38, true), (2088, 4095, 140123308032, 39, false), (4096, 8191, 274877906944, 26, true), (8192, 16383, 33554432, 40, true), (8192, 16383, 33554432, 41, true), (0, 0, 0, 8, false), (98303, 98303, 549755814016, 0, false), (262143, 262143, 1099511627776, 9, true)]
noncomputable def c32_5:=cR c32_4
noncomputable def c32_6:=cR c32_5
noncomputable def b32_10:List Row:=[(0, 0, 128, 48, true), (1, 1, 140737488355328, 49, true), (0, 0, 128, 50, true), (4, 4, 562949953421312, 51, true), (0, 0, 128, 52, true), (16, 16, 2251799813685248, 53, true), (0, 0, 32, 54, true), (64, 64, 9007199254740992, 55, true), (160, 240, 22517998136852480, 56, true), (264, 508, 37154696925806592, 57, true), (3, 3, 64, 58, true), (1027, 1027, 144396663052566528, 0, false), (4095, 4095, 64, 59, true), (8191, 8191, 360287970189639680, 0, false)]
noncomputable def c32_7:=cR c32_6
noncomputable def b32_11:List Row:=[(0, 0, 8, 60, true), (1, 1, 576460752303423488, 61, true), (0, 0, 1, 62, true), (4, 4, 2305843009213693952, 63, true), (8, 12, 4611686018427387904, 64, true), (16, 28, 9223372036854775808, 65, true), (32, 60, 18446744073709551616, 66, true), (66, 127, 38046409652025950208, 67, false), (0, 0, 8, 68, true), (256, 256, 147573952589676412928, 69, true), (0, 0, 128, 70, true), (1024, 1024, 590295810358705651712, 71, true), (0, 0, 128, 72, true), (4096, 4096, 2361183241434822606848, 73, true), (0, 0, 128, 74, true), (16384, 16384, 9444732965739290427392, 75, true), (40960, 61440, 23611832414348226068480, 76, true), (0, 0, 32, 77, true), (199296, 262143, 114886322091063087464448, 78, true), (0, 0, 0, 10, false), (1048575, 1048575, 151115727451828646838784, 0, false)]
noncomputable def c32_8:=cR c32_7
noncomputable def c32_9:=cL c32_5
noncomputable def c32_10:=cR c32_9
noncomputable def c32_11:=cL c32_10
noncomputable def c32_12:=cR c32_11
noncomputable def c32_13:=cL c32_3
noncomputable def c32_14:=cR c32_13
noncomputable def c32_15:=cL c32_14
noncomputable def c32_16:=cR c32_15
def c32_8_s:=@reg32 c32_8 .ret 12 (rO (cL c32_8)) (fun N M G k e w =>
 N (xv (loadAt 40 (e 6))) w fun t78 w =>
 N (xv (loadAt 40 (e 9))) w fun t79 w =>
 N (xv (Instr.buildSlice 24 2 ([(0, t78), (1, t79)]).toArray)) w fun t80 w =>
 M t80 fun t4 =>
 k (Env.p e 4 t4) w) (by kernel_rfl) (by intros; kernel_rfl)
def c32_7_s:=@drw32 c32_7 c32_8 11 (rO (cL c32_7)) b32_11 21 (fun N T M G H Y k e w =>
 T (FrX none w) (xv (fieldAt 40 (e 3) 6)) fun t59 =>
 T (FrX (some []) w) (xv (loadAt 9 t59)) fun t60 =>
 M (e 0) fun t61 =>
 T (FrX none w) (xnil t61) fun t62 =>
 T (FrX none w) (xv (fieldAt 80 t62 0)) fun t63 =>
 T (FrX none w) (xv (fieldAt 23 t63 0)) fun t64 =>
 T (FrX (some []) w) (xv (loadAt 3 t64)) fun t65 =>
 T (FrX none w) (xv (fieldAt 40 (e 3) 6)) fun t67 =>
 T (FrX (some []) w) (xv (loadAt 9 t67)) fun t68 =>
 T (FrX none w) (xv (fieldAt 57 (e 7) 1)) fun t69 =>
 T (FrX (some []) w) (xv (loadAt 35 t69)) fun t70 =>
 T (FrX none w) (xv (fieldAt 57 (e 7) 2)) fun t71 =>
 T (FrX (some []) w) (xv (loadAt 2 t71)) fun t72 =>
 T (FrX none w) (xv (fieldAt 57 (e 7) 3)) fun t73 =>
 T (FrX (some []) w) (xv (loadAt 2 t73)) fun t74 =>
 T (FrX none w) (xv (Instr.build 33 ([(0, t72), (1, t74)]).toArray)) fun t75 =>
 M (e 5) fun t76 =>
 (N (xcall (.func (.func 59) #[] #[]) [t60, t65]) w fun t66 w7 =>
 Y true (xv (loadAt 2 t73)) t74 w w7 ∧ (Y true (xv (loadAt 2 t71)) t72 w w7 ∧ (Y true (xv (loadAt 35 t69)) t70 w w7 ∧ (Y true (xv (loadAt 9 t67)) t68 w w7 ∧ (T (FrX none w7) (xv (Instr.build 40 ([(0, (.int .i64 7)), (1, t66), (6, t68), (8, t70), (7, t75), (11, t76)]).toArray)) fun t77 =>
 N (xv (Instr.alloc 40 true (.tuple #[]))) w7 fun t9 w19 =>
 Y true (xv (loadAt 2 t73)) t74 w w19 ∧ (Y true (xv (loadAt 2 t71)) t72 w w19 ∧ (Y true (xv (loadAt 35 t69)) t70 w w19 ∧ (Y true (xv (loadAt 9 t67)) t68 w w19 ∧ (N (xu (storeAt 40 t9 t77)) w19 fun _ w20 =>
 k (Env.p e 9 t9) w20))))))))) ∧ (N (xv (Instr.alloc 40 true (.tuple #[]))) w fun t9 w19 =>
 Y true (xv (loadAt 2 t73)) t74 w w19 ∧ (Y true (xv (loadAt 2 t71)) t72 w w19 ∧ (Y true (xv (loadAt 35 t69)) t70 w w19 ∧ (Y true (xv (loadAt 9 t67)) t68 w w19 ∧ (Y true (xv (loadAt 3 t64)) t65 w w19 ∧ (Y true (xv (loadAt 9 t59)) t60 w w19 ∧ (N (xcall (.func (.func 59) #[] #[]) [t60, t65]) w19 fun t66 w7 =>
 Y true (xv (loadAt 2 t73)) t74 w w7 ∧ (Y true (xv (loadAt 2 t71)) t72 w w7 ∧ (Y true (xv (loadAt 35 t69)) t70 w w7 ∧ (Y true (xv (loadAt 9 t67)) t68 w w7 ∧ (T (FrX none w7) (xv (Instr.build 40 ([(0, (.int .i64 7)), (1, t66), (6, t68), (8, t70), (7, t75), (11, t76)]).toArray)) fun t77 =>
 N (xu (storeAt 40 t9 t77)) w7 fun _ w20 =>
 k (Env.p e 9 t9) w20)))))))))))) (by kernel_rfl) (by kernel_rfl) (by kernel_rfl) (by intros; kernel_rfl)
def c32_6_s:=@drw32 c32_6 c32_7 10 (rO (cL c32_6)) b32_10 14 (fun N T M G H Y k e w =>
 T (FrX none w) (xv (fieldAt 57 (e 7) 1)) fun t47 =>
 T (FrX (some []) w) (xv (loadAt 35 t47)) fun t48 =>
 T (FrX none w) (xv (fieldAt 57 (e 7) 2)) fun t49 =>
 T (FrX (some []) w) (xv (loadAt 2 t49)) fun t50 =>
 T (FrX none w) (xv (fieldAt 57 (e 7) 3)) fun t51 =>
 T (FrX (some []) w) (xv (loadAt 2 t51)) fun t52 =>
 M (e 5) fun t53 =>
 T (FrX none w) (xv (xbin .add 2 (.tmp 53) (.const (.int .i64 1)) t53 (.int .i64 1))) fun t54 =>
 T (FrX (some []) w) (builtin Builtin.min #[2, 2] 2 ([false, false]).toArray ([t52, t54]).toArray) fun t55 =>
 T (FrX none w) (xv (Instr.build 33 ([(0, t50), (1, t55)]).toArray)) fun t56 =>
 T (FrX none w) (xv (fieldAt 40 (e 6) 8)) fun t57 =>
 N (xu (storeAt 35 t57 t48)) w fun _ w11 =>
 Y true (builtin Builtin.min #[2, 2] 2 ([false, false]).toArray ([t52, t54]).toArray) t55 w w11 ∧ (Y true (xv (loadAt 2 t51)) t52 w w11 ∧ (Y true (xv (loadAt 2 t49)) t50 w w11 ∧ (T (FrX none w11) (xv (fieldAt 40 (e 6) 7)) fun t58 =>
 N (xu (storeAt 33 t58 t56)) w11 fun _ w13 =>
 k e w13)))) (by kernel_rfl) (by kernel_rfl) (by kernel_rfl) (by intros; kernel_rfl)
def c32_12_s:=@reg32 c32_12 .ret 9 (rO (cL c32_12)) (fun N M G k e w =>
 N (xv (loadAt 40 (e 6))) w fun t45 w =>
 N (xv (Instr.buildSlice 24 1 ([(0, t45)]).toArray)) w fun t46 w =>
 M t46 fun t4 =>
 k (Env.p e 4 t4) w) (by kernel_rfl) (by intros; kernel_rfl)
def c32_11_s:=@reg32 c32_11 c32_12 8 (rO (cL c32_11)) (fun N M G k e w =>
 M (e 8) fun t43 =>
 N (xv (fieldAt 40 (e 6) 10)) w fun t44 w =>
 N (xu (storeAt 36 t44 t43)) w fun _ w =>
 k e w) (by kernel_rfl) (by intros; kernel_rfl)
def c32_10_s:=@cond32 c32_10 .skip 42 c32_11 (by kernel_rfl) (by kernel_rfl)
def c32_9_s:=@reg32 c32_9 c32_10 7 (rO (cL c32_9)) (fun N M G k e w =>
 M (e 8) fun t41 =>
 N (xv (xbin .neq 36 (.tmp 41) (.const (.int .i64 0)) t41 (.int .i64 0))) w fun t42 w =>
 k (Env.p e 42 t42) w) (by kernel_rfl) (by intros; kernel_rfl)
def c32_5_s:=@seq32 c32_5 c32_6 c32_9 (by kernel_rfl)
def c32_4_s:=@drw32 c32_4 c32_5 6 (rO (cL c32_4)) b32_6 19 (fun N T M G H Y k e w =>
 M (e 0) fun t26 =>
 T (FrX none w) (xnil t26) fun t27 =>
 T (FrX none w) (xv (fieldAt 80 t27 1)) fun t28 =>
 T (FrX (some []) w) (xv (loadAt 74 t28)) fun t29 =>
 T (FrX none w) (xv (fieldAt 40 (e 3) 6)) fun t30 =>
 T (FrX (some []) w) (xv (loadAt 9 t30)) fun t31 =>
 T (FrX none w) (xv (fieldAt 40 (e 3) 7)) fun t32 =>
 T (FrX none w) (xv (fieldAt 33 t32 1)) fun t33 =>
 T (FrX (some []) w) (xv (loadAt 2 t33)) fun t34 =>
 T (FrX none w) (xv (xbin .sub 2 (.tmp 34) (.const (.int .i64 1)) t34 (.int .i64 1))) fun t35 =>
 M (e 5) fun t36 =>
 T (FrX (some []) w) (builtin Builtin.min #[2, 2] 2 ([false, false]).toArray ([t35, t36]).toArray) fun t37 =>
 (N (xcall (.func (.func 40) #[] #[]) [t29, t31, t37]) w fun t38 w12 =>
 M t38 fun t25 =>
 T (FrX none w12) (xv (Instr.extract t25 0)) fun t39 =>
 T (FrX none w12) (xv (Instr.extract t25 1)) fun t40 =>
 N (xv (Instr.alloc 57 true (.tuple #[]))) w12 fun t7 w16 =>
 N (xu (storeAt 57 t7 t39)) w16 fun _ w17 =>
 M t40 fun t8 =>
 k (Env.p (Env.p e 7 t7) 8 t8) w17) ∧ (N (xv (Instr.alloc 57 true (.tuple #[]))) w fun t7 w16 =>
 Y true (builtin Builtin.min #[2, 2] 2 ([false, false]).toArray ([t35, t36]).toArray) t37 w w16 ∧ (Y true (xv (loadAt 2 t33)) t34 w w16 ∧ (Y true (xv (loadAt 9 t30)) t31 w w16 ∧ (Y true (xv (loadAt 74 t28)) t29 w w16 ∧ (N (xcall (.func (.func 40) #[] #[]) [t29, t31, t37]) w16 fun t38 w12 =>
 M t38 fun t25 =>
 T (FrX none w12) (xv (Instr.extract t25 0)) fun t39 =>
 T (FrX none w12) (xv (Instr.extract t25 1)) fun t40 =>
 N (xu (storeAt 57 t7 t39)) w12 fun _ w17 =>
 M t40 fun t8 =>
 k (Env.p (Env.p e 7 t7) 8 t8) w17)))))) (by kernel_rfl) (by kernel_rfl) (by kernel_rfl) (by intros; kernel_rfl)
def c32_16_s:=@reg32 c32_16 .ret 5 (rO (cL c32_16)) (fun N M G k e w =>
 N (xv (loadAt 40 (e 6))) w fun t23 w =>
 N (xv (Instr.buildSlice 24 1 ([(0, t23)]).toArray)) w fun t24 w =>
 M t24 fun t4 =>
 k (Env.p e 4 t4) w) (by kernel_rfl) (by intros; kernel_rfl)
def c32_15_s:=@reg32 c32_15 c32_16 4 (rO (cL c32_15)) (fun N M G k e w =>
 N (xv (fieldAt 40 (e 6) 10)) w fun t22 w =>
 N (xu (storeAt 36 t22 (.int .i64 21))) w fun _ w =>
 k e w) (by kernel_rfl) (by intros; kernel_rfl)
def c32_14_s:=@cond32 c32_14 .skip 21 c32_15 (by kernel_rfl) (by kernel_rfl)
def c32_13_s:=@reg32 c32_13 c32_14 3 (rO (cL c32_13)) (fun N M G k e w =>
 N (xv (fieldAt 40 (e 3) 7)) w fun t17 w =>
 N (xv (fieldAt 33 t17 0)) w fun t18 w =>
 N (xv (loadAt 2 t18)) w fun t19 w =>
 M (e 5) fun t20 =>
 N (xv (xbin .gtr 2 (.tmp 19) (.tmp 20) t19 t20)) w fun t21 w =>
 k (Env.p e 21 t21) w) (by kernel_rfl) (by intros; kernel_rfl)
def c32_3_s:=@seq32 c32_3 c32_4 c32_13 (by kernel_rfl)
def c32_2_s:=@reg32 c32_2 c32_3 2 (rO (cL c32_2)) (fun N M G k e w =>
 N (xv (fieldAt 40 (e 3) 4)) w fun t12 w =>
 N (xv (loadAt 3 t12)) w fun t13 w =>
 N (xv (fieldAt 40 (e 3) 5)) w fun t14 w =>
 N (xv (loadAt 3 t14)) w fun t15 w =>
 N (xv (Instr.build 40 ([(0, (.int .i64 6)), (4, t13), (5, t15)]).toArray)) w fun t16 w =>
 N (xv (Instr.alloc 40 true (.tuple #[]))) w fun t6 w =>
 N (xu (storeAt 40 t6 t16)) w fun _ w =>
 k (Env.p e 6 t6) w) (by kernel_rfl) (by intros; kernel_rfl)
def c32_1_s:=@reg32 c32_1 c32_2 1 (rO (cL c32_1)) (fun N M G k e w =>
 M (e 0) fun t10 =>
 N (xcall (.func (.func 12) #[] #[]) [t10]) w fun t11 w =>
 M t11 fun t5 =>
 k (Env.p e 5 t5) w) (by kernel_rfl) (by intros; kernel_rfl)
def c32_s:=@reg32 c32 c32_1 0 (rO (cL c32)) (fun N M G k e w =>
 N (xv (Instr.box 40 (e 1))) w fun t3 w =>
 M (.slice none 0 0) fun t4 =>
 k (Env.p (Env.p e 3 t3) 4 t4) w) (by kernel_rfl) (by intros; kernel_rfl)
theorem call32 {a0 a1 : Value} {w : World} {R : Value → World → Prop} (h : W3 Tryz.prog 81 V32 c32 (retQ Tryz.prog [.tmp 4] R) (argE [a0, a1]) w) : CallsN Tryz.prog 32 [a0, a1] w R :=
 callsN_of_W3 (c := c32) (rs := [.tmp 4]) V32 Tryz.ntmps32 (by rw [Tryz.results32]) mixed Tryz.func32 (by kernel_rfl) (by kernel_rfl) (by kernel_rfl) (by kernel_rfl) (by simp) h
def w3t_32:=w3t Tryz.prog 81 V32
def hk32 := aI @c32_8_s <| aI @c32_7_s <| aI @c32_6_s <| aI @c32_12_s <| aI @c32_11_s <| aI @c32_10_s <| aI @c32_9_s <| aI @c32_5_s <| aI @c32_4_s <| aI @c32_16_s <| aI @c32_15_s <| aI @c32_14_s <| aI @c32_13_s <| aI @c32_3_s <| aI @c32_2_s <| aI @c32_1_s <| aI @c32_s <| @w3t_32
-- K32: ↓hk32
/-! ### (*vouch/origin.Origin) . resend -/
def V33 : Nat → Bool := fun i => [0, 1, 3, 4, 12].elem i
def cond33:=@s_cond Tryz.prog 19 V33
def drw33:=@s_drw Tryz.prog 19 V33
def reg33:=@s_reg Tryz.prog 19 V33
def seq33:=@s_seq Tryz.prog 19 V33
noncomputable def c33:Code:=(Tryz.f33.body.getD .skip)
noncomputable def c33_1:=cR c33
noncomputable def c33_2:=cR c33_1
noncomputable def c33_3:=cL c33_1
noncomputable def b33_1:List Row:=[(0, 0, 8, 6, true), (1, 1, 32, 7, true), (0, 0, 1, 8, true), (4, 4, 128, 9, true), (8, 12, 256, 10, true), (16, 28, 512, 11, true), (32, 60, 1024, 12, true), (66, 127, 2112, 13, true)]
noncomputable def c33_4:=cR c33_3
noncomputable def c33_5:=cL c33_4
def c33_2_s:=@reg33 c33_2 .ret 3 (rO (cL c33_2)) (fun N M G k e w =>
 M (e 0) fun t13 =>
 N (xv (fieldAt 40 (e 3) 1)) w fun t14 w =>
 N (xv (loadAt 3 t14)) w fun t15 w =>
 N (xv (fieldAt 40 (e 3) 11)) w fun t16 w =>
 N (xv (loadAt 2 t16)) w fun t17 w =>
 N (xcall (.func (.func 58) #[] #[]) [t13, t15, t17, (.int .i64 16)]) w fun t18 w =>
 M t18 fun t4 =>
 k (Env.p e 4 t4) w) (by kernel_rfl) (by intros; kernel_rfl)
def c33_5_s:=@reg33 c33_5 .ret 2 (rO (cL c33_5)) (fun N M G k e w =>
 M (.slice none 0 0) fun t4 =>
 k (Env.p e 4 t4) w) (by kernel_rfl) (by intros; kernel_rfl)
def c33_4_s:=@cond33 c33_4 .skip 12 c33_5 (by kernel_rfl) (by kernel_rfl)
def c33_3_s:=@drw33 c33_3 c33_4 1 (rO (cL c33_3)) b33_1 8 (fun N T M G H Y k e w =>
 T (FrX none w) (xv (fieldAt 40 (e 3) 1)) fun t5 =>
 T (FrX (some []) w) (xv (loadAt 3 t5)) fun t6 =>
 M (e 0) fun t7 =>
 T (FrX none w) (xnil t7) fun t8 =>
 T (FrX none w) (xv (fieldAt 80 t8 0)) fun t9 =>
 T (FrX none w) (xv (fieldAt 23 t9 0)) fun t10 =>
 T (FrX (some []) w) (xv (loadAt 3 t10)) fun t11 =>
 T (FrX none w) (xv (xbin .geq 3 (.tmp 6) (.tmp 11) t6 t11)) fun t12 =>
 k (Env.p e 12 t12) w) (by kernel_rfl) (by kernel_rfl) (by kernel_rfl) (by intros; kernel_rfl)
def c33_1_s:=@seq33 c33_1 c33_2 c33_3 (by kernel_rfl)
def c33_s:=@reg33 c33 c33_1 0 (rO (cL c33)) (fun N M G k e w =>
 N (xv (Instr.box 40 (e 1))) w fun t3 w =>
 M (.slice none 0 0) fun t4 =>
 k (Env.p (Env.p e 3 t3) 4 t4) w) (by kernel_rfl) (by intros; kernel_rfl)
theorem call33 {a0 a1 : Value} {w : World} {R : Value → World → Prop} (h : W3 Tryz.prog 19 V33 c33 (retQ Tryz.prog [.tmp 4] R) (argE [a0, a1]) w) : CallsN Tryz.prog 33 [a0, a1] w R :=
 callsN_of_W3 (c := c33) (rs := [.tmp 4]) V33 Tryz.ntmps33 (by rw [Tryz.results33]) mixed Tryz.func33 (by kernel_rfl) (by kernel_rfl) (by kernel_rfl) (by kernel_rfl) (by simp) h
def w3t_33:=w3t Tryz.prog 19 V33
def hk33 := aI @c33_2_s <| aI @c33_5_s <| aI @c33_4_s <| aI @c33_3_s <| aI @c33_1_s <| aI @c33_s <| @w3t_33
-- K33: ↓hk33
/-! ### (*vouch/origin.Origin) . record -/
def V58 : Nat → Bool := fun i => [0, 1, 2, 3, 8, 9, 11, 18, 19, 20, 21].elem i
def block58:=@s_block Tryz.prog 35 V58
def cond58:=@s_cond Tryz.prog 35 V58
def loop58:=@s_loop Tryz.prog 35 V58
def reg58:=@s_reg Tryz.prog 35 V58
def rend58:=@s_rend Tryz.prog 35 V58
def seq58:=@s_seq Tryz.prog 35 V58
noncomputable def c58:Code:=(Tryz.f58.body.getD .skip)
noncomputable def c58_1:=cR c58
noncomputable def c58_2:=cR c58_1
noncomputable def c58_3:=cR c58_2
noncomputable def c58_4:=cL c58_2
noncomputable def c58_5:=cR c58_4
noncomputable def c58_6:=cL c58_5
noncomputable def c58_7:=cL c58_6
noncomputable def c58_8:=cR c58_7
noncomputable def c58_9:=cR c58_8
noncomputable def c58_10:=cR c58_9
noncomputable def c58_11:=cL c58_9
noncomputable def c58_12:=cL c58_11
noncomputable def c58_13:=cR c58_12
noncomputable def c58_14:=cL c58_8
def c58_3_s:=@reg58 c58_3 .ret 7 (rO (cL c58_3)) (fun N M G k e w =>
 M (e 9) fun t34 =>
 M t34 fun t8 =>
 k (Env.p e 8 t8) w) (by kernel_rfl) (by intros; kernel_rfl)
def c58_10_s:=@rend58 c58_10 6 (rO c58_10) (fun N M G k e w =>
 N (xv (xbin .add 3 (.tmp 20) (.const (.int .i64 1)) (e 20) (.int .i64 1))) w fun t33 w =>
 M t33 fun t20 =>
 k (Env.p e 20 t20) w) (by kernel_rfl) (by intros; kernel_rfl)
def c58_13_s:=@rend58 c58_13 5 (rO c58_13) (fun N M G k e w =>
 M (e 9) fun t24 =>
 M (e 1) fun t25 =>
 N (xv (fieldAt 86 (e 11) 0)) w fun t26 w =>
 N (xv (loadAt 2 t26)) w fun t27 w =>
 N (xv (fieldAt 86 (e 11) 1)) w fun t28 w =>
 N (xv (loadAt 38 t28)) w fun t29 w =>
 N (xv (Instr.build 40 ([(0, (.int .i64 8)), (1, t25), (11, t27), (13, t29)]).toArray)) w fun t30 w =>
 N (xv (Instr.buildSlice 24 1 ([(0, t30)]).toArray)) w fun t31 w =>
 N (builtin Builtin.append #[24, 24] 24 ([false, false]).toArray ([t24, t31]).toArray) w fun t32 w =>
 M t32 fun t9 =>
 k (Env.p e 9 t9) w) (by kernel_rfl) (by intros; kernel_rfl)
def c58_12_s:=@reg58 c58_12 c58_13 4 (rO (cL c58_12)) (fun N M G k e w =>
 N (xv (indexAt 45 (e 18) (e 20))) w fun t22 w =>
 N (xv (loadAt 86 t22)) w fun t23 w =>
 N (xv (Instr.alloc 86 true (.tuple #[]))) w fun t11 w =>
 N (xu (storeAt 86 t11 t23)) w fun _ w =>
 k (Env.p e 11 t11) w) (by kernel_rfl) (by intros; kernel_rfl)
def c58_11_s:=@block58 c58_11 c58_12 1 (by kernel_rfl)
def c58_9_s:=@seq58 c58_9 c58_10 c58_11 (by kernel_rfl)
def c58_14_s:=@cond58 c58_14 (.exit 0) 21 .skip (by kernel_rfl) (by kernel_rfl)
def c58_8_s:=@seq58 c58_8 c58_9 c58_14 (by kernel_rfl)
def c58_7_s:=@reg58 c58_7 c58_8 3 (rO (cL c58_7)) (fun N M G k e w =>
 N (xv (xbin .lss 3 (.tmp 20) (.tmp 19) (e 20) (e 19))) w fun t21 w =>
 k (Env.p e 21 t21) w) (by kernel_rfl) (by intros; kernel_rfl)
def c58_6_s:=@loop58 c58_6 c58_7 (by kernel_rfl)
def c58_5_s:=@block58 c58_5 c58_6 0 (by kernel_rfl)
def c58_4_s:=@reg58 c58_4 c58_5 2 (rO (cL c58_4)) (fun N M G k e w =>
 M (e 0) fun t12 =>
 N (xnil t12) w fun t13 w =>
 N (xv (fieldAt 80 t13 2)) w fun t14 w =>
 N (xv (loadAt 76 t14)) w fun t15 w =>
 M (e 2) fun t16 =>
 M (e 3) fun t17 =>
 N (xcall (.func (.func 39) #[] #[]) [t15, t16, t17]) w fun t18 w =>
 N (builtin Builtin.len #[45] 3 ([false]).toArray ([t18]).toArray) w fun t19 w =>
 M (.int .i64 0) fun t20 =>
 k (Env.p (Env.p (Env.p e 18 t18) 19 t19) 20 t20) w) (by kernel_rfl) (by intros; kernel_rfl)
def c58_2_s:=@seq58 c58_2 c58_3 c58_4 (by kernel_rfl)
def c58_1_s:=@reg58 c58_1 c58_2 1 (rO (cL c58_1)) (fun N M G k e w =>
 M (.slice none 0 0) fun t9 =>
 k (Env.p e 9 t9) w) (by kernel_rfl) (by intros; kernel_rfl)
def c58_s:=@reg58 c58 c58_1 0 (rO (cL c58)) (fun N M G k e w =>
 M (.slice none 0 0) fun t8 =>
 k (Env.p e 8 t8) w) (by kernel_rfl) (by intros; kernel_rfl)
theorem call58 {a0 a1 a2 a3 : Value} {w : World} {R : Value → World → Prop} (h : W3 Tryz.prog 35 V58 c58 (retQ Tryz.prog [.tmp 8] R) (argE [a0, a1, a2, a3]) w) : CallsN Tryz.prog 58 [a0, a1, a2, a3] w R :=
 callsN_of_W3 (c := c58) (rs := [.tmp 8]) V58 Tryz.ntmps58 (by rw [Tryz.results58]) mixed Tryz.func58 (by kernel_rfl) (by kernel_rfl) (by kernel_rfl) (by kernel_rfl) (by simp) h
def w3t_58:=w3t Tryz.prog 35 V58
def hk58 := aI @c58_3_s <| aI @c58_10_s <| aI @c58_13_s <| aI @c58_12_s <| aI @c58_11_s <| aI @c58_9_s <| aI @c58_14_s <| aI @c58_8_s <| aI @c58_7_s <| aI @c58_6_s <| aI @c58_5_s <| aI @c58_4_s <| aI @c58_2_s <| aI @c58_1_s <| aI @c58_s <| @w3t_58
-- K58: ↓hk58
/-! ### vouch/fact.Held -/
def V25 : Nat → Bool := fun i => [0, 1, 2, 3].elem i
def drw25:=@s_drw Tryz.prog 37 V25
def reg25:=@s_reg Tryz.prog 37 V25
noncomputable def c25:Code:=(Tryz.f25.body.getD .skip)
noncomputable def c25_1:=cR c25
noncomputable def c25_2:=cR c25_1
noncomputable def b25_2:List Row:=[(0, 0, 8, 5, true), (0, 0, 2, 6, true), (2, 2, 32, 7, true), (5, 7, 80, 8, false), (0, 0, 8, 9, true), (0, 0, 2, 10, true), (32, 32, 512, 11, true), (88, 127, 1280, 12, false), (0, 0, 8, 13, true), (0, 0, 2, 14, true), (512, 512, 8192, 15, true), (1408, 2047, 20480, 16, false), (0, 0, 8, 17, true), (0, 0, 2, 18, true), (8192, 8192, 131072, 19, true), (22528, 32767, 327680, 20, false), (0, 0, 8, 21, true), (0, 0, 2, 22, true), (131072, 131072, 2097152, 23, true), (360448, 524287, 5242880, 24, false), (0, 0, 8, 25, true), (0, 0, 2, 26, true), (2097152, 2097152, 33554432, 27, true), (5767168, 8388607, 83886080, 28, false), (0, 0, 8, 29, true), (0, 0, 2, 30, true), (33554432, 33554432, 536870912, 31, true), (92274688, 134217727, 1342177280, 32, false), (0, 0, 8, 33, true), (0, 0, 2, 34, true), (536870912, 536870912, 8589934592, 35, true), (1476395008, 2147483647, 21474836480, 36, false), (2290649224, 4294967295, 36650387584, 37, true), (8589934591, 8589934591, 68719476740, 0, false)]
def c25_2_s:=@drw25 c25_2 .ret 2 (rO (cL c25_2)) b25_2 34 (fun N T M G H Y k e w =>
 M (e 3) fun t4 =>
 T (FrX none w) (xv (fieldAt 23 (e 1) 0)) fun t5 =>
 T (FrX (some []) w) (xv (loadAt 3 t5)) fun t6 =>
 M (e 3) fun t8 =>
 T (FrX none w) (xv (fieldAt 23 (e 1) 1)) fun t9 =>
 T (FrX (some []) w) (xv (loadAt 3 t9)) fun t10 =>
 M (e 3) fun t12 =>
 T (FrX none w) (xv (fieldAt 23 (e 1) 2)) fun t13 =>
 T (FrX (some []) w) (xv (loadAt 3 t13)) fun t14 =>
 M (e 3) fun t16 =>
 T (FrX none w) (xv (fieldAt 23 (e 1) 3)) fun t17 =>
 T (FrX (some []) w) (xv (loadAt 3 t17)) fun t18 =>
 M (e 3) fun t20 =>
 T (FrX none w) (xv (fieldAt 23 (e 1) 4)) fun t21 =>
 T (FrX (some []) w) (xv (loadAt 3 t21)) fun t22 =>
 M (e 3) fun t24 =>
 T (FrX none w) (xv (fieldAt 23 (e 1) 5)) fun t25 =>
 T (FrX (some []) w) (xv (loadAt 3 t25)) fun t26 =>
 M (e 3) fun t28 =>
 T (FrX none w) (xv (fieldAt 23 (e 1) 6)) fun t29 =>
 T (FrX (some []) w) (xv (loadAt 3 t29)) fun t30 =>
 M (e 3) fun t32 =>
 T (FrX none w) (xv (fieldAt 23 (e 1) 7)) fun t33 =>
 T (FrX (some []) w) (xv (loadAt 3 t33)) fun t34 =>
 N (xcall t4 [t6, (.int .i64 8), (.int .i64 1)]) w fun t7 w3 =>
 Y true (xv (loadAt 3 t33)) t34 w w3 ∧ (Y true (xv (loadAt 3 t29)) t30 w w3 ∧ (Y true (xv (loadAt 3 t25)) t26 w w3 ∧ (Y true (xv (loadAt 3 t21)) t22 w w3 ∧ (Y true (xv (loadAt 3 t17)) t18 w w3 ∧ (Y true (xv (loadAt 3 t13)) t14 w w3 ∧ (Y true (xv (loadAt 3 t9)) t10 w w3 ∧ (N (xcall t8 [t10, (.int .i64 1048576), (.int .i64 0)]) w3 fun t11 w7 =>
 Y true (xv (loadAt 3 t33)) t34 w w7 ∧ (Y true (xv (loadAt 3 t29)) t30 w w7 ∧ (Y true (xv (loadAt 3 t25)) t26 w w7 ∧ (Y true (xv (loadAt 3 t21)) t22 w w7 ∧ (Y true (xv (loadAt 3 t17)) t18 w w7 ∧ (Y true (xv (loadAt 3 t13)) t14 w w7 ∧ (N (xcall t12 [t14, (.int .i64 64), (.int .i64 1)]) w7 fun t15 w11 =>
 Y true (xv (loadAt 3 t33)) t34 w w11 ∧ (Y true (xv (loadAt 3 t29)) t30 w w11 ∧ (Y true (xv (loadAt 3 t25)) t26 w w11 ∧ (Y true (xv (loadAt 3 t21)) t22 w w11 ∧ (Y true (xv (loadAt 3 t17)) t18 w w11 ∧ (N (xcall t16 [t18, (.int .i64 256), (.int .i64 0)]) w11 fun t19 w15 =>
 Y true (xv (loadAt 3 t33)) t34 w w15 ∧ (Y true (xv (loadAt 3 t29)) t30 w w15 ∧ (Y true (xv (loadAt 3 t25)) t26 w w15 ∧ (Y true (xv (loadAt 3 t21)) t22 w w15 ∧ (N (xcall t20 [t22, (.int .i64 1024), (.int .i64 0)]) w15 fun t23 w19 =>
 Y true (xv (loadAt 3 t33)) t34 w w19 ∧ (Y true (xv (loadAt 3 t29)) t30 w w19 ∧ (Y true (xv (loadAt 3 t25)) t26 w w19 ∧ (N (xcall t24 [t26, (.int .i64 64), (.int .i64 1)]) w19 fun t27 w23 =>
 Y true (xv (loadAt 3 t33)) t34 w w23 ∧ (Y true (xv (loadAt 3 t29)) t30 w w23 ∧ (N (xcall t28 [t30, (.int .i64 256), (.int .i64 0)]) w23 fun t31 w27 =>
 Y true (xv (loadAt 3 t33)) t34 w w27 ∧ (N (xcall t32 [t34, (.int .i64 16), (.int .i64 0)]) w27 fun t35 w31 =>
 T (FrX none w31) (xv (Instr.build 23 ([(0, t7), (1, t11), (2, t15), (3, t19), (4, t23), (5, t27), (6, t31), (7, t35)]).toArray)) fun t36 =>
 N (xu (storeAt 23 (e 2) t36)) w31 fun _ w33 =>
 k e w33))))))))))))))))))))))))))))) (by kernel_rfl) (by kernel_rfl) (by kernel_rfl) (by intros; kernel_rfl)
def c25_1_s:=@reg25 c25_1 c25_2 1 (rO (cL c25_1)) (fun N M G k e w =>
 M (.func (.func 49) #[] #[]) fun t3 =>
 k (Env.p e 3 t3) w) (by kernel_rfl) (by intros; kernel_rfl)
def c25_s:=@reg25 c25 c25_1 0 (rO (cL c25)) (fun N M G k e w =>
 N (xv (Instr.box 23 (e 0))) w fun t1 w =>
 N (xv (Instr.alloc 23 true (.tuple #[]))) w fun t2 w =>
 k (Env.p (Env.p e 1 t1) 2 t2) w) (by kernel_rfl) (by intros; kernel_rfl)
theorem call25 {a0 : Value} {w : World} {R : Value → World → Prop} (h : W3 Tryz.prog 37 V25 c25 (retQ Tryz.prog [.cell 2 23] R) (argE [a0]) w) : CallsN Tryz.prog 25 [a0] w R :=
 callsN_of_W3 (c := c25) (rs := [.cell 2 23]) V25 Tryz.ntmps25 (by rw [Tryz.results25]) mixed Tryz.func25 (by kernel_rfl) (by kernel_rfl) (by kernel_rfl) (by kernel_rfl) (by simp) h
def w3t_25:=w3t Tryz.prog 37 V25
def hk25 := aI @c25_2_s <| aI @c25_1_s <| aI @c25_s <| @w3t_25
-- K25: ↓hk25
/-! ### vouch/fact.Held$1 -/
def V49 : Nat → Bool := fun i => [0, 1, 2, 6].elem i
def reg49:=@s_reg Tryz.prog 12 V49
noncomputable def c49:Code:=(Tryz.f49.body.getD .skip)
noncomputable def c49_1:=cR c49
def c49_1_s:=@reg49 c49_1 .ret 1 (rO (cL c49_1)) (fun N M G k e w =>
 M (e 0) fun t7 =>
 M (e 2) fun t8 =>
 N (builtin Builtin.max #[3, 3] 3 ([false, false]).toArray ([t7, t8]).toArray) w fun t9 w =>
 M (e 1) fun t10 =>
 N (builtin Builtin.min #[3, 3] 3 ([false, false]).toArray ([t9, t10]).toArray) w fun t11 w =>
 M t11 fun t6 =>
 k (Env.p e 6 t6) w) (by kernel_rfl) (by intros; kernel_rfl)
def c49_s:=@reg49 c49 c49_1 0 (rO (cL c49)) (fun N M G k e w =>
 M (.int .i64 0) fun t6 =>
 k (Env.p e 6 t6) w) (by kernel_rfl) (by intros; kernel_rfl)
theorem call49 {a0 a1 a2 : Value} {w : World} {R : Value → World → Prop} (h : W3 Tryz.prog 12 V49 c49 (retQ Tryz.prog [.tmp 6] R) (argE [a0, a1, a2]) w) : CallsN Tryz.prog 49 [a0, a1, a2] w R :=
 callsN_of_W3 (c := c49) (rs := [.tmp 6]) V49 Tryz.ntmps49 (by rw [Tryz.results49]) mixed Tryz.func49 (by kernel_rfl) (by kernel_rfl) (by kernel_rfl) (by kernel_rfl) (by simp) h
def w3t_49:=w3t Tryz.prog 12 V49
def hk49 := aI @c49_1_s <| aI @c49_s <| @w3t_49
-- K49: ↓hk49
/-! ### vouch/route.To -/
def V59 : Nat → Bool := fun i => [0, 1, 4, 10].elem i
def cond59:=@s_cond Tryz.prog 17 V59
def reg59:=@s_reg Tryz.prog 17 V59
def seq59:=@s_seq Tryz.prog 17 V59
noncomputable def c59:Code:=(Tryz.f59.body.getD .skip)
noncomputable def c59_1:=cR c59
noncomputable def c59_2:=cR c59_1
noncomputable def c59_3:=cL c59_1
noncomputable def c59_4:=cR c59_3
noncomputable def c59_5:=cL c59_4
def c59_2_s:=@reg59 c59_2 .ret 3 (rO (cL c59_2)) (fun N M G k e w =>
 M (e 0) fun t11 =>
 N (xcall (.func (.func 91) #[] #[]) [t11]) w fun t12 w =>
 M (e 1) fun t13 =>
 N (xv (convert 3 143 t13)) w fun t14 w =>
 N (xv (xbin .rem 143 (.tmp 12) (.tmp 14) t12 t14)) w fun t15 w =>
 N (xv (convert 143 3 t15)) w fun t16 w =>
 M t16 fun t4 =>
 k (Env.p e 4 t4) w) (by kernel_rfl) (by intros; kernel_rfl)
def c59_5_s:=@reg59 c59_5 .ret 2 (rO (cL c59_5)) (fun N M G k e w =>
 M (.int .i64 (-1)) fun t4 =>
 k (Env.p e 4 t4) w) (by kernel_rfl) (by intros; kernel_rfl)
def c59_4_s:=@cond59 c59_4 .skip 10 c59_5 (by kernel_rfl) (by kernel_rfl)
def c59_3_s:=@reg59 c59_3 c59_4 1 (rO (cL c59_3)) (fun N M G k e w =>
 M (e 1) fun t5 =>
 N (xv (xbin .lss 3 (.tmp 5) (.const (.int .i64 1)) t5 (.int .i64 1))) w fun t6 w =>
 M t6 fun t7 =>
 G (isB t7 false) (fun K => M (e 1) fun v => K v w) (fun t8 w =>
 G (isB t7 false) (fun K => N (xv (xbin .gtr 3 (.tmp 8) (.const (.int .i64 8)) t8 (.int .i64 8))) w K) (fun t9 w =>
 N (xpick t7 (.bool true) t9) w fun t10 w =>
 k (Env.p e 10 t10) w) w) w) (by kernel_rfl) (by intros; kernel_rfl)
def c59_1_s:=@seq59 c59_1 c59_2 c59_3 (by kernel_rfl)
def c59_s:=@reg59 c59 c59_1 0 (rO (cL c59)) (fun N M G k e w =>
 M (.int .i64 0) fun t4 =>
 k (Env.p e 4 t4) w) (by kernel_rfl) (by intros; kernel_rfl)
theorem call59 {a0 a1 : Value} {w : World} {R : Value → World → Prop} (h : W3 Tryz.prog 17 V59 c59 (retQ Tryz.prog [.tmp 4] R) (argE [a0, a1]) w) : CallsN Tryz.prog 59 [a0, a1] w R :=
 callsN_of_W3 (c := c59) (rs := [.tmp 4]) V59 Tryz.ntmps59 (by rw [Tryz.results59]) mixed Tryz.func59 (by kernel_rfl) (by kernel_rfl) (by kernel_rfl) (by kernel_rfl) (by simp) h
def w3t_59:=w3t Tryz.prog 17 V59
def hk59 := aI @c59_2_s <| aI @c59_5_s <| aI @c59_4_s <| aI @c59_3_s <| aI @c59_1_s <| aI @c59_s <| @w3t_59
-- K59: ↓hk59
/-! ### vouch/route.Hash -/
def V91 : Nat → Bool := fun i => [0, 2, 3, 4, 6, 7, 8].elem i
def block91:=@s_block Tryz.prog 20 V91
def cond91:=@s_cond Tryz.prog 20 V91
def loop91:=@s_loop Tryz.prog 20 V91
def reg91:=@s_reg Tryz.prog 20 V91
def rend91:=@s_rend Tryz.prog 20 V91
def seq91:=@s_seq Tryz.prog 20 V91
noncomputable def c91:Code:=(Tryz.f91.body.getD .skip)
noncomputable def c91_1:=cR c91
noncomputable def c91_2:=cR c91_1
noncomputable def c91_3:=cR c91_2
noncomputable def c91_4:=cL c91_2
noncomputable def c91_5:=cR c91_4
noncomputable def c91_6:=cL c91_5
noncomputable def c91_7:=cL c91_6
noncomputable def c91_8:=cR c91_7
noncomputable def c91_9:=cR c91_8
noncomputable def c91_10:=cR c91_9
noncomputable def c91_11:=cL c91_9
noncomputable def c91_12:=cL c91_11
noncomputable def c91_13:=cR c91_12
noncomputable def c91_14:=cR c91_13
noncomputable def c91_15:=cL c91_8
def c91_3_s:=@reg91 c91_3 .ret 8 (rO (cL c91_3)) (fun N M G k e w =>
 M (e 3) fun t19 =>
 M t19 fun t2 =>
 k (Env.p e 2 t2) w) (by kernel_rfl) (by intros; kernel_rfl)
def c91_10_s:=@rend91 c91_10 7 (rO c91_10) (fun N M G k e w =>
 N (xv (xbin .add 3 (.tmp 7) (.const (.int .i64 1)) (e 7) (.int .i64 1))) w fun t18 w =>
 M t18 fun t7 =>
 k (Env.p e 7 t7) w) (by kernel_rfl) (by intros; kernel_rfl)
def c91_14_s:=@rend91 c91_14 6 (rO c91_14) (fun N M G k e w =>
 M (e 3) fun t16 =>
 N (xv (xbin .mul 143 (.tmp 16) (.const (.int .u64 1099511628211)) t16 (.int .u64 1099511628211))) w fun t17 w =>
 M t17 fun t3 =>
 k (Env.p e 3 t3) w) (by kernel_rfl) (by intros; kernel_rfl)
def c91_13_s:=@reg91 c91_13 c91_14 5 (rO (cL c91_13)) (fun N M G k e w =>
 M (e 3) fun t10 =>
 M (e 0) fun t11 =>
 M (e 4) fun t12 =>
 N (xv (Instr.index 9 t11 t12)) w fun t13 w =>
 N (xv (convert 5 143 t13)) w fun t14 w =>
 N (xv (xbin .xor 143 (.tmp 10) (.tmp 14) t10 t14)) w fun t15 w =>
 M t15 fun t3 =>
 k (Env.p e 3 t3) w) (by kernel_rfl) (by intros; kernel_rfl)
def c91_12_s:=@reg91 c91_12 c91_13 4 (rO (cL c91_12)) (fun N M G k e w =>
 M (e 7) fun t9 =>
 M t9 fun t4 =>
 k (Env.p e 4 t4) w) (by kernel_rfl) (by intros; kernel_rfl)
def c91_11_s:=@block91 c91_11 c91_12 1 (by kernel_rfl)
def c91_9_s:=@seq91 c91_9 c91_10 c91_11 (by kernel_rfl)
def c91_15_s:=@cond91 c91_15 (.exit 0) 8 .skip (by kernel_rfl) (by kernel_rfl)
def c91_8_s:=@seq91 c91_8 c91_9 c91_15 (by kernel_rfl)
def c91_7_s:=@reg91 c91_7 c91_8 3 (rO (cL c91_7)) (fun N M G k e w =>
 N (xv (xbin .lss 3 (.tmp 7) (.tmp 6) (e 7) (e 6))) w fun t8 w =>
 k (Env.p e 8 t8) w) (by kernel_rfl) (by intros; kernel_rfl)
def c91_6_s:=@loop91 c91_6 c91_7 (by kernel_rfl)
def c91_5_s:=@block91 c91_5 c91_6 0 (by kernel_rfl)
def c91_4_s:=@reg91 c91_4 c91_5 2 (rO (cL c91_4)) (fun N M G k e w =>
 M (e 0) fun t5 =>
 N (builtin Builtin.len #[9] 3 ([false]).toArray ([t5]).toArray) w fun t6 w =>
 M (.int .i64 0) fun t7 =>
 k (Env.p (Env.p e 6 t6) 7 t7) w) (by kernel_rfl) (by intros; kernel_rfl)
def c91_2_s:=@seq91 c91_2 c91_3 c91_4 (by kernel_rfl)
def c91_1_s:=@reg91 c91_1 c91_2 1 (rO (cL c91_1)) (fun N M G k e w =>
 M (.int .u64 14695981039346656037) fun t3 =>
 k (Env.p e 3 t3) w) (by kernel_rfl) (by intros; kernel_rfl)
def c91_s:=@reg91 c91 c91_1 0 (rO (cL c91)) (fun N M G k e w =>
 M (.int .u64 0) fun t2 =>
 k (Env.p e 2 t2) w) (by kernel_rfl) (by intros; kernel_rfl)
theorem call91 {a0 : Value} {w : World} {R : Value → World → Prop} (h : W3 Tryz.prog 20 V91 c91 (retQ Tryz.prog [.tmp 2] R) (argE [a0]) w) : CallsN Tryz.prog 91 [a0] w R :=
 callsN_of_W3 (c := c91) (rs := [.tmp 2]) V91 Tryz.ntmps91 (by rw [Tryz.results91]) mixed Tryz.func91 (by kernel_rfl) (by kernel_rfl) (by kernel_rfl) (by kernel_rfl) (by simp) h
def w3t_91:=w3t Tryz.prog 20 V91
def hk91 := aI @c91_3_s <| aI @c91_10_s <| aI @c91_14_s <| aI @c91_13_s <| aI @c91_12_s <| aI @c91_11_s <| aI @c91_9_s <| aI @c91_15_s <| aI @c91_8_s <| aI @c91_7_s <| aI @c91_6_s <| aI @c91_5_s <| aI @c91_4_s <| aI @c91_2_s <| aI @c91_1_s <| aI @c91_s <| @w3t_91
-- K91: ↓hk91
end
end Go.Proofs.YtgloomahpjpiiaaGreat
