/- The equations of the code of some functions, written by the printer gen3.py: each is checked by the kernel. -/
import Derived.Test.YtgloomahpjpiiaaGreatQ0
import Derived.Test.YtgloomahpjpiiaaGreatCI
set_option linter.unusedVariables false
set_option linter.unusedSimpArgs false
set_option maxRecDepth 100000
namespace Go.Proofs.YtgloomahpjpiiaaGreat
open Go.VW
open Go.Instr (loadAt storeAt fieldAt indexAt)
noncomputable section
set_option linter.defProp false
variable {N : NT} {T : T3T} {M : MT} {G : GT} {H : HT} {Y : YT} {k : KT} {Q : Exit → Env → World → Prop} {e el eg : Env} {w u0 u1 u2 u3 u4 u5 u6 u7 u8 u9 : World}
/-! ### vouch/vouchref05.GoodKey -/
def V41 : Nat → Bool := fun i => [0, 2].elem i
def reg41:=@s_reg Tryz.prog 10 V41
noncomputable def c41:Code:=(Tryz.f41.body.getD .skip)
noncomputable def c41_1:=cR c41
def c41_1_s:=@reg41 c41_1 .ret 1 (rO (cL c41_1)) (fun N M G k e w =>
 M (e 0) fun t3 =>
 N (xv (xbin .neq 9 (.tmp 3) (.const (.string ⟨#[]⟩)) t3 (.string ⟨#[]⟩))) w fun t4 w =>
 M t4 fun t5 =>
 G (isB t5 true) (fun K => M (e 0) fun v => K v w) (fun t6 w =>
 G (isB t5 true) (fun K => N (builtin Builtin.len #[9] 3 ([false]).toArray ([t6]).toArray) w K) (fun t7 w =>
 G (isB t5 true) (fun K => N (xv (xbin .leq 3 (.tmp 7) (.const (.int .i64 32)) t7 (.int .i64 32))) w K) (fun t8 w =>
 N (xpick t5 t8 (.bool false)) w fun t9 w =>
 M t9 fun t2 =>
 k (Env.p e 2 t2) w) w) w) w) (by kernel_rfl) (by intros; kernel_rfl)
def c41_s:=@reg41 c41 c41_1 0 (rO (cL c41)) (fun N M G k e w =>
 M (.bool false) fun t2 =>
 k (Env.p e 2 t2) w) (by kernel_rfl) (by intros; kernel_rfl)
theorem call41 {a0 : Value} {w : World} {R : Value → World → Prop} (h : W3 Tryz.prog 10 V41 c41 (retQ Tryz.prog [.tmp 2] R) (argE [a0]) w) : CallsN Tryz.prog 41 [a0] w R :=
 callsN_of_W3 (c := c41) (rs := [.tmp 2]) V41 Tryz.ntmps41 (by rw [Tryz.results41]) mixed Tryz.func41 (by kernel_rfl) (by kernel_rfl) (by kernel_rfl) (by kernel_rfl) (by simp) h
def w3t_41:=w3t Tryz.prog 10 V41
def hk41 := aI @c41_1_s <| aI @c41_s <| @w3t_41
-- K41: ↓hk41
/-! ### vouch/vouchref05.GoodValue -/
def V64 : Nat → Bool := fun i => [0, 1, 2, 5].elem i
def cond64:=@s_cond Tryz.prog 13 V64
def reg64:=@s_reg Tryz.prog 13 V64
def seq64:=@s_seq Tryz.prog 13 V64
noncomputable def c64:Code:=(Tryz.f64.body.getD .skip)
noncomputable def c64_1:=cR c64
noncomputable def c64_2:=cR c64_1
noncomputable def c64_3:=cL c64_1
noncomputable def c64_4:=cR c64_3
noncomputable def c64_5:=cL c64_4
def c64_2_s:=@reg64 c64_2 .ret 3 (rO (cL c64_2)) (fun N M G k e w =>
 N (xv (fieldAt 35 (e 1) 1)) w fun t9 w =>
 N (xv (loadAt 9 t9)) w fun t10 w =>
 N (builtin Builtin.len #[9] 3 ([false]).toArray ([t10]).toArray) w fun t11 w =>
 N (xv (xbin .leq 3 (.tmp 11) (.const (.int .i64 256)) t11 (.int .i64 256))) w fun t12 w =>
 M t12 fun t2 =>
 k (Env.p e 2 t2) w) (by kernel_rfl) (by intros; kernel_rfl)
def c64_5_s:=@reg64 c64_5 .ret 2 (rO (cL c64_5)) (fun N M G k e w =>
 N (xv (fieldAt 35 (e 1) 1)) w fun t6 w =>
 N (xv (loadAt 9 t6)) w fun t7 w =>
 N (xv (xbin .eql 9 (.tmp 7) (.const (.string ⟨#[]⟩)) t7 (.string ⟨#[]⟩))) w fun t8 w =>
 M t8 fun t2 =>
 k (Env.p e 2 t2) w) (by kernel_rfl) (by intros; kernel_rfl)
def c64_4_s:=@cond64 c64_4 .skip 5 c64_5 (by kernel_rfl) (by kernel_rfl)
def c64_3_s:=@reg64 c64_3 c64_4 1 (rO (cL c64_3)) (fun N M G k e w =>
 N (xv (fieldAt 35 (e 1) 0)) w fun t3 w =>
 N (xv (loadAt 4 t3)) w fun t4 w =>
 N (xv (Op.unary .not t4)) w fun t5 w =>
 k (Env.p e 5 t5) w) (by kernel_rfl) (by intros; kernel_rfl)
def c64_1_s:=@seq64 c64_1 c64_2 c64_3 (by kernel_rfl)
def c64_s:=@reg64 c64 c64_1 0 (rO (cL c64)) (fun N M G k e w =>
 N (xv (Instr.box 35 (e 0))) w fun t1 w =>
 M (.bool false) fun t2 =>
 k (Env.p (Env.p e 1 t1) 2 t2) w) (by kernel_rfl) (by intros; kernel_rfl)
theorem call64 {a0 : Value} {w : World} {R : Value → World → Prop} (h : W3 Tryz.prog 13 V64 c64 (retQ Tryz.prog [.tmp 2] R) (argE [a0]) w) : CallsN Tryz.prog 64 [a0] w R :=
 callsN_of_W3 (c := c64) (rs := [.tmp 2]) V64 Tryz.ntmps64 (by rw [Tryz.results64]) mixed Tryz.func64 (by kernel_rfl) (by kernel_rfl) (by kernel_rfl) (by kernel_rfl) (by simp) h
def w3t_64:=w3t Tryz.prog 13 V64
def hk64 := aI @c64_2_s <| aI @c64_5_s <| aI @c64_4_s <| aI @c64_3_s <| aI @c64_1_s <| aI @c64_s <| @w3t_64
-- K64: ↓hk64
/-! ### vouch/vouchref05.Check -/
def V93 : Nat → Bool := fun i => [0, 2, 3, 4, 5, 13, 17, 35, 39, 44, 57].elem i
def block93:=@s_block Tryz.prog 58 V93
def cond93:=@s_cond Tryz.prog 58 V93
def drw93:=@s_drw Tryz.prog 58 V93
def loop93:=@s_loop Tryz.prog 58 V93
def reg93:=@s_reg Tryz.prog 58 V93
def rend93:=@s_rend Tryz.prog 58 V93
def seq93:=@s_seq Tryz.prog 58 V93
noncomputable def c93:Code:=(Tryz.f93.body.getD .skip)
noncomputable def c93_1:=cR c93
noncomputable def c93_2:=cR c93_1
noncomputable def c93_3:=cR c93_2
noncomputable def c93_4:=cR c93_3
noncomputable def c93_5:=cL c93_3
noncomputable def c93_6:=cR c93_5
noncomputable def c93_7:=cL c93_6
noncomputable def c93_8:=cL c93_7
noncomputable def c93_9:=cR c93_8
noncomputable def c93_10:=cR c93_9
noncomputable def c93_11:=cL c93_9
noncomputable def c93_12:=cL c93_11
noncomputable def c93_13:=cR c93_12
noncomputable def c93_14:=cL c93_13
noncomputable def c93_15:=cL c93_14
noncomputable def c93_16:=cR c93_15
noncomputable def c93_17:=cR c93_16
noncomputable def c93_18:=cL c93_16
noncomputable def c93_19:=cL c93_18
noncomputable def b93_14:List Row:=[(0, 0, 1, 48, true), (0, 0, 32, 49, true), (3, 3, 422212465065984, 50, true), (4, 7, 562949953421312, 51, true), (8, 15, 1125899906842624, 52, true), (0, 0, 1, 53, true), (0, 0, 16, 54, true), (96, 96, 13510798882111488, 55, true), (128, 224, 18014398509481984, 56, true), (256, 480, 36028797018963968, 57, true), (528, 1023, 74309393851613184, 58, true)]
noncomputable def c93_20:=cR c93_19
noncomputable def c93_21:=cL c93_20
noncomputable def c93_22:=cL c93_15
noncomputable def c93_23:=cR c93_22
noncomputable def c93_24:=cL c93_8
noncomputable def c93_25:=cR c93_24
noncomputable def c93_26:=cL c93_2
noncomputable def c93_27:=cR c93_26
noncomputable def c93_28:=cL c93_27
noncomputable def c93_29:=cL c93_28
noncomputable def c93_30:=cR c93_29
noncomputable def c93_31:=cR c93_30
noncomputable def c93_32:=cL c93_30
noncomputable def c93_33:=cL c93_32
noncomputable def c93_34:=cR c93_33
noncomputable def c93_35:=cL c93_34
noncomputable def c93_36:=cL c93_29
noncomputable def c93_37:=cR c93_36
noncomputable def c93_38:=cL c93_1
noncomputable def c93_39:=cR c93_38
noncomputable def c93_40:=cL c93_39
def c93_4_s:=@reg93 c93_4 .ret 16 (rO (cL c93_4)) (fun N M G k e w =>
 M (.int .i64 0) fun t2 =>
 k (Env.p e 2 t2) w) (by kernel_rfl) (by intros; kernel_rfl)
def c93_10_s:=@rend93 c93_10 10 (rO c93_10) (fun N M G k e w =>
 M (e 4) fun t40 =>
 N (xv (xbin .add 3 (.tmp 40) (.const (.int .i64 1)) t40 (.int .i64 1))) w fun t41 w =>
 M t41 fun t4 =>
 k (Env.p e 4 t4) w) (by kernel_rfl) (by intros; kernel_rfl)
def c93_17_s:=@rend93 c93_17 13 (rO c93_17) (fun N M G k e w =>
 M (e 5) fun t45 =>
 N (xv (xbin .add 3 (.tmp 45) (.const (.int .i64 1)) t45 (.int .i64 1))) w fun t46 w =>
 M t46 fun t5 =>
 k (Env.p e 5 t5) w) (by kernel_rfl) (by intros; kernel_rfl)
def c93_21_s:=@reg93 c93_21 .ret 15 (rO (cL c93_21)) (fun N M G k e w =>
 M (.int .i64 22) fun t2 =>
 k (Env.p e 2 t2) w) (by kernel_rfl) (by intros; kernel_rfl)
def c93_20_s:=@cond93 c93_20 .skip 57 c93_21 (by kernel_rfl) (by kernel_rfl)
def c93_19_s:=@drw93 c93_19 c93_20 14 (rO (cL c93_19)) b93_14 11 (fun N T M G H Y k e w =>
 M (e 0) fun t47 =>
 M (e 5) fun t48 =>
 T (FrX none w) (xv (indexAt 37 t47 t48)) fun t49 =>
 T (FrX none w) (xv (fieldAt 66 t49 0)) fun t50 =>
 T (FrX (some []) w) (xv (loadAt 9 t50)) fun t51 =>
 M (e 0) fun t52 =>
 M (e 4) fun t53 =>
 T (FrX none w) (xv (indexAt 37 t52 t53)) fun t54 =>
 T (FrX none w) (xv (fieldAt 66 t54 0)) fun t55 =>
 T (FrX (some []) w) (xv (loadAt 9 t55)) fun t56 =>
 T (FrX none w) (xv (xbin .eql 9 (.tmp 51) (.tmp 56) t51 t56)) fun t57 =>
 k (Env.p e 57 t57) w) (by kernel_rfl) (by kernel_rfl) (by kernel_rfl) (by intros; kernel_rfl)
def c93_18_s:=@block93 c93_18 c93_19 5 (by kernel_rfl)
def c93_16_s:=@seq93 c93_16 c93_17 c93_18 (by kernel_rfl)
def c93_23_s:=@cond93 c93_23 (.exit 4) 44 .skip (by kernel_rfl) (by kernel_rfl)
def c93_22_s:=@reg93 c93_22 c93_23 12 (rO (cL c93_22)) (fun N M G k e w =>
 M (e 5) fun t42 =>
 M (e 4) fun t43 =>
 N (xv (xbin .lss 3 (.tmp 42) (.tmp 43) t42 t43)) w fun t44 w =>
 k (Env.p e 44 t44) w) (by kernel_rfl) (by intros; kernel_rfl)
def c93_15_s:=@seq93 c93_15 c93_16 c93_22 (by kernel_rfl)
def c93_14_s:=@loop93 c93_14 c93_15 (by kernel_rfl)
def c93_13_s:=@block93 c93_13 c93_14 4 (by kernel_rfl)
def c93_12_s:=@reg93 c93_12 c93_13 11 (rO (cL c93_12)) (fun N M G k e w =>
 M (.int .i64 0) fun t5 =>
 k (Env.p e 5 t5) w) (by kernel_rfl) (by intros; kernel_rfl)
def c93_11_s:=@block93 c93_11 c93_12 3 (by kernel_rfl)
def c93_9_s:=@seq93 c93_9 c93_10 c93_11 (by kernel_rfl)
def c93_25_s:=@cond93 c93_25 (.exit 2) 39 .skip (by kernel_rfl) (by kernel_rfl)
def c93_24_s:=@reg93 c93_24 c93_25 9 (rO (cL c93_24)) (fun N M G k e w =>
 M (e 4) fun t36 =>
 M (e 0) fun t37 =>
 N (builtin Builtin.len #[37] 3 ([false]).toArray ([t37]).toArray) w fun t38 w =>
 N (xv (xbin .lss 3 (.tmp 36) (.tmp 38) t36 t38)) w fun t39 w =>
 k (Env.p e 39 t39) w) (by kernel_rfl) (by intros; kernel_rfl)
def c93_8_s:=@seq93 c93_8 c93_9 c93_24 (by kernel_rfl)
def c93_7_s:=@loop93 c93_7 c93_8 (by kernel_rfl)
def c93_6_s:=@block93 c93_6 c93_7 2 (by kernel_rfl)
def c93_5_s:=@reg93 c93_5 c93_6 8 (rO (cL c93_5)) (fun N M G k e w =>
 M (.int .i64 0) fun t4 =>
 k (Env.p e 4 t4) w) (by kernel_rfl) (by intros; kernel_rfl)
def c93_3_s:=@seq93 c93_3 c93_4 c93_5 (by kernel_rfl)
def c93_31_s:=@rend93 c93_31 5 (rO c93_31) (fun N M G k e w =>
 M (e 3) fun t18 =>
 N (xv (xbin .add 3 (.tmp 18) (.const (.int .i64 1)) t18 (.int .i64 1))) w fun t19 w =>
 M t19 fun t3 =>
 k (Env.p e 3 t3) w) (by kernel_rfl) (by intros; kernel_rfl)
def c93_35_s:=@reg93 c93_35 .ret 7 (rO (cL c93_35)) (fun N M G k e w =>
 M (.int .i64 1) fun t2 =>
 k (Env.p e 2 t2) w) (by kernel_rfl) (by intros; kernel_rfl)
def c93_34_s:=@cond93 c93_34 .skip 35 c93_35 (by kernel_rfl) (by kernel_rfl)
def c93_33_s:=@reg93 c93_33 c93_34 6 (rO (cL c93_33)) (fun N M G k e w =>
 M (e 0) fun t20 =>
 M (e 3) fun t21 =>
 N (xv (indexAt 37 t20 t21)) w fun t22 w =>
 N (xv (fieldAt 66 t22 0)) w fun t23 w =>
 N (xv (loadAt 9 t23)) w fun t24 w =>
 N (xcall (.func (.func 41) #[] #[]) [t24]) w fun t25 w =>
 N (xv (Op.unary .not t25)) w fun t26 w =>
 M t26 fun t27 =>
 G (isB t27 false) (fun K => M (e 0) fun v => K v w) (fun t28 w =>
 G (isB t27 false) (fun K => M (e 3) fun v => K v w) (fun t29 w =>
 G (isB t27 false) (fun K => N (xv (indexAt 37 t28 t29)) w K) (fun t30 w =>
 G (isB t27 false) (fun K => N (xv (fieldAt 66 t30 1)) w K) (fun t31 w =>
 G (isB t27 false) (fun K => N (xv (loadAt 35 t31)) w K) (fun t32 w =>
 G (isB t27 false) (fun K => N (xcall (.func (.func 64) #[] #[]) [t32]) w K) (fun t33 w =>
 G (isB t27 false) (fun K => N (xv (Op.unary .not t33)) w K) (fun t34 w =>
 N (xpick t27 (.bool true) t34) w fun t35 w =>
 k (Env.p e 35 t35) w) w) w) w) w) w) w) w) (by kernel_rfl) (by intros; kernel_rfl)
def c93_32_s:=@block93 c93_32 c93_33 1 (by kernel_rfl)
def c93_30_s:=@seq93 c93_30 c93_31 c93_32 (by kernel_rfl)
def c93_37_s:=@cond93 c93_37 (.exit 0) 17 .skip (by kernel_rfl) (by kernel_rfl)
def c93_36_s:=@reg93 c93_36 c93_37 4 (rO (cL c93_36)) (fun N M G k e w =>
 M (e 3) fun t14 =>
 M (e 0) fun t15 =>
 N (builtin Builtin.len #[37] 3 ([false]).toArray ([t15]).toArray) w fun t16 w =>
 N (xv (xbin .lss 3 (.tmp 14) (.tmp 16) t14 t16)) w fun t17 w =>
 k (Env.p e 17 t17) w) (by kernel_rfl) (by intros; kernel_rfl)
def c93_29_s:=@seq93 c93_29 c93_30 c93_36 (by kernel_rfl)
def c93_28_s:=@loop93 c93_28 c93_29 (by kernel_rfl)
def c93_27_s:=@block93 c93_27 c93_28 0 (by kernel_rfl)
def c93_26_s:=@reg93 c93_26 c93_27 3 (rO (cL c93_26)) (fun N M G k e w =>
 M (.int .i64 0) fun t3 =>
 k (Env.p e 3 t3) w) (by kernel_rfl) (by intros; kernel_rfl)
def c93_2_s:=@seq93 c93_2 c93_3 c93_26 (by kernel_rfl)
def c93_40_s:=@reg93 c93_40 .ret 2 (rO (cL c93_40)) (fun N M G k e w =>
 M (.int .i64 1) fun t2 =>
 k (Env.p e 2 t2) w) (by kernel_rfl) (by intros; kernel_rfl)
def c93_39_s:=@cond93 c93_39 .skip 13 c93_40 (by kernel_rfl) (by kernel_rfl)
def c93_38_s:=@reg93 c93_38 c93_39 1 (rO (cL c93_38)) (fun N M G k e w =>
 M (e 0) fun t6 =>
 N (builtin Builtin.len #[37] 3 ([false]).toArray ([t6]).toArray) w fun t7 w =>
 N (xv (xbin .lss 3 (.tmp 7) (.const (.int .i64 1)) t7 (.int .i64 1))) w fun t8 w =>
 M t8 fun t9 =>
 G (isB t9 false) (fun K => M (e 0) fun v => K v w) (fun t10 w =>
 G (isB t9 false) (fun K => N (builtin Builtin.len #[37] 3 ([false]).toArray ([t10]).toArray) w K) (fun t11 w =>
 G (isB t9 false) (fun K => N (xv (xbin .gtr 3 (.tmp 11) (.const (.int .i64 8)) t11 (.int .i64 8))) w K) (fun t12 w =>
 N (xpick t9 (.bool true) t12) w fun t13 w =>
 k (Env.p e 13 t13) w) w) w) w) (by kernel_rfl) (by intros; kernel_rfl)
def c93_1_s:=@seq93 c93_1 c93_2 c93_38 (by kernel_rfl)
def c93_s:=@reg93 c93 c93_1 0 (rO (cL c93)) (fun N M G k e w =>
 M (.int .i64 0) fun t2 =>
 k (Env.p e 2 t2) w) (by kernel_rfl) (by intros; kernel_rfl)
theorem call93 {a0 : Value} {w : World} {R : Value → World → Prop} (h : W3 Tryz.prog 58 V93 c93 (retQ Tryz.prog [.tmp 2] R) (argE [a0]) w) : CallsN Tryz.prog 93 [a0] w R :=
 callsN_of_W3 (c := c93) (rs := [.tmp 2]) V93 Tryz.ntmps93 (by rw [Tryz.results93]) mixed Tryz.func93 (by kernel_rfl) (by kernel_rfl) (by kernel_rfl) (by kernel_rfl) (by simp) h
def w3t_93:=w3t Tryz.prog 58 V93
def hk93 := aI @c93_4_s <| aI @c93_10_s <| aI @c93_17_s <| aI @c93_21_s <| aI @c93_20_s <| aI @c93_19_s <| aI @c93_18_s <| aI @c93_16_s <| aI @c93_23_s <| aI @c93_22_s <| aI @c93_15_s <| aI @c93_14_s <| aI @c93_13_s <| aI @c93_12_s <| aI @c93_11_s <| aI @c93_9_s <| aI @c93_25_s <| aI @c93_24_s <| aI @c93_8_s <| aI @c93_7_s <| aI @c93_6_s <| aI @c93_5_s <| aI @c93_3_s <| aI @c93_31_s <| aI @c93_35_s <| aI @c93_34_s <| aI @c93_33_s <| aI @c93_32_s <| aI @c93_30_s <| aI @c93_37_s <| aI @c93_36_s <| aI @c93_29_s <| aI @c93_28_s <| aI @c93_27_s <| aI @c93_26_s <| aI @c93_2_s <| aI @c93_40_s <| aI @c93_39_s <| aI @c93_38_s <| aI @c93_1_s <| aI @c93_s <| @w3t_93
-- K93: ↓hk93
/-! ### vouch/vouchref05.SameTexts -/
def V45 : Nat → Bool := fun i => [0, 1, 4, 5, 10, 14, 25].elem i
def block45:=@s_block Tryz.prog 26 V45
def cond45:=@s_cond Tryz.prog 26 V45
def drw45:=@s_drw Tryz.prog 26 V45
def loop45:=@s_loop Tryz.prog 26 V45
def reg45:=@s_reg Tryz.prog 26 V45
def rend45:=@s_rend Tryz.prog 26 V45
def seq45:=@s_seq Tryz.prog 26 V45
noncomputable def c45:Code:=(Tryz.f45.body.getD .skip)
noncomputable def c45_1:=cR c45
noncomputable def c45_2:=cR c45_1
noncomputable def c45_3:=cR c45_2
noncomputable def c45_4:=cL c45_2
noncomputable def c45_5:=cR c45_4
noncomputable def c45_6:=cL c45_5
noncomputable def c45_7:=cL c45_6
noncomputable def c45_8:=cR c45_7
noncomputable def c45_9:=cR c45_8
noncomputable def c45_10:=cL c45_8
noncomputable def c45_11:=cL c45_10
noncomputable def b45_6:List Row:=[(0, 0, 1, 18, true), (0, 0, 32, 19, true), (3, 3, 393216, 20, true), (4, 7, 524288, 21, true), (0, 0, 2, 22, true), (0, 0, 32, 23, true), (48, 48, 6291456, 24, true), (64, 112, 8388608, 25, true), (136, 255, 17825792, 26, true)]
noncomputable def c45_12:=cR c45_11
noncomputable def c45_13:=cL c45_12
noncomputable def c45_14:=cL c45_7
noncomputable def c45_15:=cR c45_14
noncomputable def c45_16:=cL c45_1
noncomputable def c45_17:=cR c45_16
noncomputable def c45_18:=cL c45_17
def c45_3_s:=@reg45 c45_3 .ret 8 (rO (cL c45_3)) (fun N M G k e w =>
 M (.bool true) fun t4 =>
 k (Env.p e 4 t4) w) (by kernel_rfl) (by intros; kernel_rfl)
def c45_9_s:=@rend45 c45_9 5 (rO c45_9) (fun N M G k e w =>
 M (e 5) fun t15 =>
 N (xv (xbin .add 3 (.tmp 15) (.const (.int .i64 1)) t15 (.int .i64 1))) w fun t16 w =>
 M t16 fun t5 =>
 k (Env.p e 5 t5) w) (by kernel_rfl) (by intros; kernel_rfl)
def c45_13_s:=@reg45 c45_13 .ret 7 (rO (cL c45_13)) (fun N M G k e w =>
 M (.bool false) fun t4 =>
 k (Env.p e 4 t4) w) (by kernel_rfl) (by intros; kernel_rfl)
def c45_12_s:=@cond45 c45_12 .skip 25 c45_13 (by kernel_rfl) (by kernel_rfl)
def c45_11_s:=@drw45 c45_11 c45_12 6 (rO (cL c45_11)) b45_6 9 (fun N T M G H Y k e w =>
 M (e 0) fun t17 =>
 M (e 5) fun t18 =>
 T (FrX none w) (xv (indexAt 38 t17 t18)) fun t19 =>
 T (FrX (some []) w) (xv (loadAt 9 t19)) fun t20 =>
 M (e 1) fun t21 =>
 M (e 5) fun t22 =>
 T (FrX none w) (xv (indexAt 38 t21 t22)) fun t23 =>
 T (FrX (some []) w) (xv (loadAt 9 t23)) fun t24 =>
 T (FrX none w) (xv (xbin .neq 9 (.tmp 20) (.tmp 24) t20 t24)) fun t25 =>
 k (Env.p e 25 t25) w) (by kernel_rfl) (by kernel_rfl) (by kernel_rfl) (by intros; kernel_rfl)
def c45_10_s:=@block45 c45_10 c45_11 1 (by kernel_rfl)
def c45_8_s:=@seq45 c45_8 c45_9 c45_10 (by kernel_rfl)
def c45_15_s:=@cond45 c45_15 (.exit 0) 14 .skip (by kernel_rfl) (by kernel_rfl)
def c45_14_s:=@reg45 c45_14 c45_15 4 (rO (cL c45_14)) (fun N M G k e w =>
 M (e 5) fun t11 =>
 M (e 0) fun t12 =>
 N (builtin Builtin.len #[38] 3 ([false]).toArray ([t12]).toArray) w fun t13 w =>
 N (xv (xbin .lss 3 (.tmp 11) (.tmp 13) t11 t13)) w fun t14 w =>
 k (Env.p e 14 t14) w) (by kernel_rfl) (by intros; kernel_rfl)
def c45_7_s:=@seq45 c45_7 c45_8 c45_14 (by kernel_rfl)
def c45_6_s:=@loop45 c45_6 c45_7 (by kernel_rfl)
def c45_5_s:=@block45 c45_5 c45_6 0 (by kernel_rfl)
def c45_4_s:=@reg45 c45_4 c45_5 3 (rO (cL c45_4)) (fun N M G k e w =>
 M (.int .i64 0) fun t5 =>
 k (Env.p e 5 t5) w) (by kernel_rfl) (by intros; kernel_rfl)
def c45_2_s:=@seq45 c45_2 c45_3 c45_4 (by kernel_rfl)
def c45_18_s:=@reg45 c45_18 .ret 2 (rO (cL c45_18)) (fun N M G k e w =>
 M (.bool false) fun t4 =>
 k (Env.p e 4 t4) w) (by kernel_rfl) (by intros; kernel_rfl)
def c45_17_s:=@cond45 c45_17 .skip 10 c45_18 (by kernel_rfl) (by kernel_rfl)
def c45_16_s:=@reg45 c45_16 c45_17 1 (rO (cL c45_16)) (fun N M G k e w =>
 M (e 0) fun t6 =>
 N (builtin Builtin.len #[38] 3 ([false]).toArray ([t6]).toArray) w fun t7 w =>
 M (e 1) fun t8 =>
 N (builtin Builtin.len #[38] 3 ([false]).toArray ([t8]).toArray) w fun t9 w =>
 N (xv (xbin .neq 3 (.tmp 7) (.tmp 9) t7 t9)) w fun t10 w =>
 k (Env.p e 10 t10) w) (by kernel_rfl) (by intros; kernel_rfl)
def c45_1_s:=@seq45 c45_1 c45_2 c45_16 (by kernel_rfl)
def c45_s:=@reg45 c45 c45_1 0 (rO (cL c45)) (fun N M G k e w =>
 M (.bool false) fun t4 =>
 k (Env.p e 4 t4) w) (by kernel_rfl) (by intros; kernel_rfl)
theorem call45 {a0 a1 : Value} {w : World} {R : Value → World → Prop} (h : W3 Tryz.prog 26 V45 c45 (retQ Tryz.prog [.tmp 4] R) (argE [a0, a1]) w) : CallsN Tryz.prog 45 [a0, a1] w R :=
 callsN_of_W3 (c := c45) (rs := [.tmp 4]) V45 Tryz.ntmps45 (by rw [Tryz.results45]) mixed Tryz.func45 (by kernel_rfl) (by kernel_rfl) (by kernel_rfl) (by kernel_rfl) (by simp) h
def w3t_45:=w3t Tryz.prog 26 V45
def hk45 := aI @c45_3_s <| aI @c45_9_s <| aI @c45_13_s <| aI @c45_12_s <| aI @c45_11_s <| aI @c45_10_s <| aI @c45_8_s <| aI @c45_15_s <| aI @c45_14_s <| aI @c45_7_s <| aI @c45_6_s <| aI @c45_5_s <| aI @c45_4_s <| aI @c45_2_s <| aI @c45_18_s <| aI @c45_17_s <| aI @c45_16_s <| aI @c45_1_s <| aI @c45_s <| @w3t_45
-- K45: ↓hk45
/-! ### (*vouch/vouchref05.Store) . Commit -/
def V66 : Nat → Bool := fun i => [0, 1, 4, 5, 6, 7, 11, 23].elem i
def block66:=@s_block Tryz.prog 48 V66
def cond66:=@s_cond Tryz.prog 48 V66
def drwE66:=@s_drwE Tryz.prog 48 V66
def loop66:=@s_loop Tryz.prog 48 V66
def reg66:=@s_reg Tryz.prog 48 V66
def rend66:=@s_rend Tryz.prog 48 V66
def seq66:=@s_seq Tryz.prog 48 V66
noncomputable def c66:Code:=(Tryz.f66.body.getD .skip)
noncomputable def c66_1:=cR c66
noncomputable def c66_2:=cR c66_1
noncomputable def c66_3:=cR c66_2
noncomputable def c66_4:=cR c66_3
noncomputable def c66_5:=cR c66_4
noncomputable def c66_6:=cL c66_4
noncomputable def c66_7:=cR c66_6
noncomputable def c66_8:=cL c66_7
noncomputable def c66_9:=cL c66_8
noncomputable def c66_10:=cR c66_9
noncomputable def c66_11:=cR c66_10
noncomputable def c66_12:=cL c66_10
noncomputable def c66_13:=cL c66_12
noncomputable def b66_8:List Row:=[(0, 0, 1, 27, true), (0, 0, 1, 28, true), (2, 2, 134217728, 29, true), (4, 6, 268435456, 30, true), (8, 14, 536870912, 31, true), (0, 0, 1, 32, true), (32, 32, 2147483648, 33, true), (64, 96, 4294967296, 34, true), (128, 224, 8589934592, 35, true), (0, 0, 2, 36, true), (0, 0, 128, 37, true), (1536, 1536, 103079215104, 38, true), (2048, 3584, 137438953472, 39, true), (4352, 8160, 292057776128, 40, true), (8192, 16352, 549755813888, 41, false), (16400, 32766, 1100585369600, 42, false), (65535, 65535, 67108864, 43, true), (131071, 131071, 4398046511104, 44, true), (196607, 262143, 10995116277760, 0, false)]
noncomputable def c66_14:=cL c66_9
noncomputable def c66_15:=cR c66_14
noncomputable def c66_16:=cL c66_2
noncomputable def c66_17:=cR c66_16
noncomputable def c66_18:=cL c66_17
def c66_5_s:=@reg66 c66_5 .ret 9 (rO (cL c66_5)) (fun N M G k e w =>
 M (e 0) fun t44 =>
 N (xnil t44) w fun t45 w =>
 N (xv (fieldAt 44 t45 2)) w fun t46 w =>
 N (xv (loadAt 2 t46)) w fun t47 w =>
 M t47 fun t4 =>
 M (.int .i64 0) fun t5 =>
 k (Env.p (Env.p e 4 t4) 5 t5) w) (by kernel_rfl) (by intros; kernel_rfl)
def c66_11_s:=@rend66 c66_11 7 (rO c66_11) (fun N M G k e w =>
 M (e 7) fun t24 =>
 N (xv (xbin .add 3 (.tmp 24) (.const (.int .i64 1)) t24 (.int .i64 1))) w fun t25 w =>
 M t25 fun t7 =>
 k (Env.p e 7 t7) w) (by kernel_rfl) (by intros; kernel_rfl)
def c66_13_s:=@drwE66 c66_13 8 (rO c66_13) b66_8 19 (fun N T M G H Y k e w =>
 M (e 0) fun t26 =>
 M (e 0) fun t27 =>
 T (FrX none w) (xnil t27) fun t28 =>
 T (FrX none w) (xv (fieldAt 44 t28 0)) fun t29 =>
 T (FrX (some []) w) (xv (loadAt 42 t29)) fun t30 =>
 M (e 0) fun t31 =>
 T (FrX none w) (xnil t31) fun t32 =>
 T (FrX none w) (xv (fieldAt 44 t32 2)) fun t33 =>
 T (FrX (some []) w) (xv (loadAt 2 t33)) fun t34 =>
 M (e 1) fun t35 =>
 M (e 7) fun t36 =>
 T (FrX none w) (xv (indexAt 37 t35 t36)) fun t37 =>
 T (FrX (some []) w) (xv (loadAt 66 t37)) fun t38 =>
 T (FrX none w) (xv (Instr.build 131 ([(0, t34), (1, t38)]).toArray)) fun t39 =>
 N (xv (Instr.buildSlice 42 1 ([(0, t39)]).toArray)) w fun t40 w14 =>
 Y true (xv (loadAt 42 t29)) t30 w w14 ∧ (N (builtin Builtin.append #[42, 42] 42 ([false, false]).toArray ([t30, t40]).toArray) w14 fun t41 w15 =>
 T (FrX none w15) (xnil t26) fun t42 =>
 T (FrX none w15) (xv (fieldAt 44 t42 0)) fun t43 =>
 N (xu (storeAt 42 t43 t41)) w15 fun _ w18 =>
 k e w18)) (by kernel_rfl) (by kernel_rfl) (by kernel_rfl) (by intros; kernel_rfl)
def c66_12_s:=@block66 c66_12 c66_13 1 (by kernel_rfl)
def c66_10_s:=@seq66 c66_10 c66_11 c66_12 (by kernel_rfl)
def c66_15_s:=@cond66 c66_15 (.exit 0) 23 .skip (by kernel_rfl) (by kernel_rfl)
def c66_14_s:=@reg66 c66_14 c66_15 6 (rO (cL c66_14)) (fun N M G k e w =>
 M (e 7) fun t20 =>
 M (e 1) fun t21 =>
 N (builtin Builtin.len #[37] 3 ([false]).toArray ([t21]).toArray) w fun t22 w =>
 N (xv (xbin .lss 3 (.tmp 20) (.tmp 22) t20 t22)) w fun t23 w =>
 k (Env.p e 23 t23) w) (by kernel_rfl) (by intros; kernel_rfl)
def c66_9_s:=@seq66 c66_9 c66_10 c66_14 (by kernel_rfl)
def c66_8_s:=@loop66 c66_8 c66_9 (by kernel_rfl)
def c66_7_s:=@block66 c66_7 c66_8 0 (by kernel_rfl)
def c66_6_s:=@reg66 c66_6 c66_7 5 (rO (cL c66_6)) (fun N M G k e w =>
 M (.int .i64 0) fun t7 =>
 k (Env.p e 7 t7) w) (by kernel_rfl) (by intros; kernel_rfl)
def c66_4_s:=@seq66 c66_4 c66_5 c66_6 (by kernel_rfl)
def c66_3_s:=@reg66 c66_3 c66_4 4 (rO (cL c66_3)) (fun N M G k e w =>
 M (e 0) fun t13 =>
 N (xnil t13) w fun t14 w =>
 N (xv (fieldAt 44 t14 2)) w fun t15 w =>
 N (xv (loadAt 2 t15)) w fun t16 w =>
 N (xv (xbin .add 2 (.tmp 16) (.const (.int .i64 1)) t16 (.int .i64 1))) w fun t17 w =>
 N (xnil t13) w fun t18 w =>
 N (xv (fieldAt 44 t18 2)) w fun t19 w =>
 N (xu (storeAt 2 t19 t17)) w fun _ w =>
 k e w) (by kernel_rfl) (by intros; kernel_rfl)
def c66_18_s:=@reg66 c66_18 .ret 3 (rO (cL c66_18)) (fun N M G k e w =>
 M (e 6) fun t12 =>
 M (.int .i64 0) fun t4 =>
 M t12 fun t5 =>
 k (Env.p (Env.p e 4 t4) 5 t5) w) (by kernel_rfl) (by intros; kernel_rfl)
def c66_17_s:=@cond66 c66_17 .skip 11 c66_18 (by kernel_rfl) (by kernel_rfl)
def c66_16_s:=@reg66 c66_16 c66_17 2 (rO (cL c66_16)) (fun N M G k e w =>
 M (e 6) fun t10 =>
 N (xv (xbin .neq 3 (.tmp 10) (.const (.int .i64 0)) t10 (.int .i64 0))) w fun t11 w =>
 k (Env.p e 11 t11) w) (by kernel_rfl) (by intros; kernel_rfl)
def c66_2_s:=@seq66 c66_2 c66_3 c66_16 (by kernel_rfl)
def c66_1_s:=@reg66 c66_1 c66_2 1 (rO (cL c66_1)) (fun N M G k e w =>
 M (e 1) fun t8 =>
 N (xcall (.func (.func 93) #[] #[]) [t8]) w fun t9 w =>
 M t9 fun t6 =>
 k (Env.p e 6 t6) w) (by kernel_rfl) (by intros; kernel_rfl)
def c66_s:=@reg66 c66 c66_1 0 (rO (cL c66)) (fun N M G k e w =>
 M (.int .i64 0) fun t4 =>
 M (.int .i64 0) fun t5 =>
 k (Env.p (Env.p e 4 t4) 5 t5) w) (by kernel_rfl) (by intros; kernel_rfl)
theorem call66 {a0 a1 : Value} {w : World} {R : Value → World → Prop} (h : W3 Tryz.prog 48 V66 c66 (retQ Tryz.prog [.tmp 4, .tmp 5] R) (argE [a0, a1]) w) : CallsN Tryz.prog 66 [a0, a1] w R :=
 callsN_of_W3 (c := c66) (rs := [.tmp 4, .tmp 5]) V66 Tryz.ntmps66 (by rw [Tryz.results66]) mixed Tryz.func66 (by kernel_rfl) (by kernel_rfl) (by kernel_rfl) (by kernel_rfl) (by simp) h
def w3t_66:=w3t Tryz.prog 48 V66
def hk66 := aI @c66_5_s <| aI @c66_11_s <| aI @c66_13_s <| aI @c66_12_s <| aI @c66_10_s <| aI @c66_15_s <| aI @c66_14_s <| aI @c66_9_s <| aI @c66_8_s <| aI @c66_7_s <| aI @c66_6_s <| aI @c66_4_s <| aI @c66_3_s <| aI @c66_18_s <| aI @c66_17_s <| aI @c66_16_s <| aI @c66_2_s <| aI @c66_1_s <| aI @c66_s <| @w3t_66
-- K66: ↓hk66
/-! ### (*vouch/vouchref05.Store) . Read -/
def V17 : Nat → Bool := fun i => [0, 1, 2, 6, 7, 8, 17, 25].elem i
def block17:=@s_block Tryz.prog 36 V17
def cond17:=@s_cond Tryz.prog 36 V17
def reg17:=@s_reg Tryz.prog 36 V17
def seq17:=@s_seq Tryz.prog 36 V17
noncomputable def c17:Code:=(Tryz.f17.body.getD .skip)
noncomputable def c17_1:=cR c17
noncomputable def c17_2:=cR c17_1
noncomputable def c17_3:=cL c17_1
noncomputable def c17_4:=cL c17_3
noncomputable def c17_5:=cR c17_4
noncomputable def c17_6:=cL c17_5
noncomputable def c17_7:=cR c17_5
noncomputable def c17_8:=cR c17_7
noncomputable def c17_9:=cL c17_8
noncomputable def c17_10:=cR c17_8
noncomputable def c17_11:=cR c17_10
noncomputable def c17_12:=cL c17_11
def c17_2_s:=@reg17 c17_2 .ret 7 (rO (cL c17_2)) (fun N M G k e w =>
 M (e 0) fun t32 =>
 M (e 1) fun t33 =>
 M (e 2) fun t34 =>
 N (xcall (.func (.func 42) #[] #[]) [t32, t33, t34]) w fun t35 w =>
 N (xu (storeAt 57 (e 6) t35)) w fun _ w =>
 M (.int .i64 0) fun t7 =>
 k (Env.p e 7 t7) w) (by kernel_rfl) (by intros; kernel_rfl)
def c17_6_s:=@reg17 c17_6 .ret 2 (rO (cL c17_6)) (fun N M G k e w =>
 N (xv (Instr.build 57 ([]).toArray)) w fun t16 w =>
 N (xu (storeAt 57 (e 6) t16)) w fun _ w =>
 M (.int .i64 1) fun t7 =>
 k (Env.p e 7 t7) w) (by kernel_rfl) (by intros; kernel_rfl)
def c17_9_s:=@reg17 c17_9 .ret 4 (rO (cL c17_9)) (fun N M G k e w =>
 N (xv (Instr.build 57 ([]).toArray)) w fun t24 w =>
 N (xu (storeAt 57 (e 6) t24)) w fun _ w =>
 M (.int .i64 21) fun t7 =>
 k (Env.p e 7 t7) w) (by kernel_rfl) (by intros; kernel_rfl)
def c17_12_s:=@reg17 c17_12 .ret 6 (rO (cL c17_12)) (fun N M G k e w =>
 N (xv (Instr.build 57 ([]).toArray)) w fun t31 w =>
 N (xu (storeAt 57 (e 6) t31)) w fun _ w =>
 M (.int .i64 20) fun t7 =>
 k (Env.p e 7 t7) w) (by kernel_rfl) (by intros; kernel_rfl)
def c17_11_s:=@cond17 c17_11 .skip 25 c17_12 (by kernel_rfl) (by kernel_rfl)
def c17_10_s:=@reg17 c17_10 c17_11 5 (rO (cL c17_10)) (fun N M G k e w =>
 M (e 2) fun t26 =>
 M (e 0) fun t27 =>
 M (e 1) fun t28 =>
 N (xcall (.func (.func 19) #[] #[]) [t27, t28]) w fun t29 w =>
 N (xv (xbin .lss 2 (.tmp 26) (.tmp 29) t26 t29)) w fun t30 w =>
 M t30 fun t25 =>
 k (Env.p e 25 t25) w) (by kernel_rfl) (by intros; kernel_rfl)
def c17_8_s:=@cond17 c17_8 c17_10 17 c17_9 (by kernel_rfl) (by kernel_rfl)
def c17_7_s:=@reg17 c17_7 c17_8 3 (rO (cL c17_7)) (fun N M G k e w =>
 M (e 2) fun t18 =>
 M (e 0) fun t19 =>
 N (xnil t19) w fun t20 w =>
 N (xv (fieldAt 44 t20 2)) w fun t21 w =>
 N (xv (loadAt 2 t21)) w fun t22 w =>
 N (xv (xbin .gtr 2 (.tmp 18) (.tmp 22) t18 t22)) w fun t23 w =>
 M t23 fun t17 =>
 k (Env.p e 17 t17) w) (by kernel_rfl) (by intros; kernel_rfl)
def c17_5_s:=@cond17 c17_5 c17_7 8 c17_6 (by kernel_rfl) (by kernel_rfl)
def c17_4_s:=@reg17 c17_4 c17_5 1 (rO (cL c17_4)) (fun N M G k e w =>
 M (e 1) fun t9 =>
 N (xcall (.func (.func 41) #[] #[]) [t9]) w fun t10 w =>
 N (xv (Op.unary .not t10)) w fun t11 w =>
 M t11 fun t12 =>
 G (isB t12 false) (fun K => M (e 2) fun v => K v w) (fun t13 w =>
 G (isB t12 false) (fun K => N (xv (xbin .lss 2 (.tmp 13) (.const (.int .i64 0)) t13 (.int .i64 0))) w K) (fun t14 w =>
 N (xpick t12 (.bool true) t14) w fun t15 w =>
 M t15 fun t8 =>
 k (Env.p e 8 t8) w) w) w) (by kernel_rfl) (by intros; kernel_rfl)
def c17_3_s:=@block17 c17_3 c17_4 0 (by kernel_rfl)
def c17_1_s:=@seq17 c17_1 c17_2 c17_3 (by kernel_rfl)
def c17_s:=@reg17 c17 c17_1 0 (rO (cL c17)) (fun N M G k e w =>
 N (xv (Instr.alloc 57 true (.tuple #[]))) w fun t6 w =>
 M (.int .i64 0) fun t7 =>
 k (Env.p (Env.p e 6 t6) 7 t7) w) (by kernel_rfl) (by intros; kernel_rfl)
theorem call17 {a0 a1 a2 : Value} {w : World} {R : Value → World → Prop} (h : W3 Tryz.prog 36 V17 c17 (retQ Tryz.prog [.cell 6 57, .tmp 7] R) (argE [a0, a1, a2]) w) : CallsN Tryz.prog 17 [a0, a1, a2] w R :=
 callsN_of_W3 (c := c17) (rs := [.cell 6 57, .tmp 7]) V17 Tryz.ntmps17 (by rw [Tryz.results17]) mixed Tryz.func17 (by kernel_rfl) (by kernel_rfl) (by kernel_rfl) (by kernel_rfl) (by simp) h
def w3t_17:=w3t Tryz.prog 36 V17
def hk17 := aI @c17_2_s <| aI @c17_6_s <| aI @c17_9_s <| aI @c17_12_s <| aI @c17_11_s <| aI @c17_10_s <| aI @c17_8_s <| aI @c17_7_s <| aI @c17_5_s <| aI @c17_4_s <| aI @c17_3_s <| aI @c17_1_s <| aI @c17_s <| @w3t_17
-- K17: ↓hk17
/-! ### (*vouch/vouchref05.Store) . Oldest -/
def V19 : Nat → Bool := fun i => [0, 1, 4, 5, 15].elem i
def cond19:=@s_cond Tryz.prog 27 V19
def reg19:=@s_reg Tryz.prog 27 V19
def seq19:=@s_seq Tryz.prog 27 V19
noncomputable def c19:Code:=(Tryz.f19.body.getD .skip)
noncomputable def c19_1:=cR c19
noncomputable def c19_2:=cR c19_1
noncomputable def c19_3:=cR c19_2
noncomputable def c19_4:=cL c19_2
noncomputable def c19_5:=cR c19_4
noncomputable def c19_6:=cL c19_5
def c19_3_s:=@reg19 c19_3 .ret 4 (rO (cL c19_3)) (fun N M G k e w =>
 M (.int .i64 0) fun t4 =>
 k (Env.p e 4 t4) w) (by kernel_rfl) (by intros; kernel_rfl)
def c19_6_s:=@reg19 c19_6 .ret 3 (rO (cL c19_6)) (fun N M G k e w =>
 M (e 5) fun t16 =>
 M (e 5) fun t17 =>
 N (builtin Builtin.len #[91] 3 ([false]).toArray ([t17]).toArray) w fun t18 w =>
 M (e 0) fun t19 =>
 N (xnil t19) w fun t20 w =>
 N (xv (fieldAt 44 t20 1)) w fun t21 w =>
 N (xv (loadAt 3 t21)) w fun t22 w =>
 N (xv (xbin .sub 3 (.tmp 18) (.tmp 22) t18 t22)) w fun t23 w =>
 N (xv (indexAt 91 t16 t23)) w fun t24 w =>
 N (xv (fieldAt 94 t24 0)) w fun t25 w =>
 N (xv (loadAt 2 t25)) w fun t26 w =>
 M t26 fun t4 =>
 k (Env.p e 4 t4) w) (by kernel_rfl) (by intros; kernel_rfl)
def c19_5_s:=@cond19 c19_5 .skip 15 c19_6 (by kernel_rfl) (by kernel_rfl)
def c19_4_s:=@reg19 c19_4 c19_5 2 (rO (cL c19_4)) (fun N M G k e w =>
 M (e 5) fun t9 =>
 N (builtin Builtin.len #[91] 3 ([false]).toArray ([t9]).toArray) w fun t10 w =>
 M (e 0) fun t11 =>
 N (xnil t11) w fun t12 w =>
 N (xv (fieldAt 44 t12 1)) w fun t13 w =>
 N (xv (loadAt 3 t13)) w fun t14 w =>
 N (xv (xbin .gtr 3 (.tmp 10) (.tmp 14) t10 t14)) w fun t15 w =>
 k (Env.p e 15 t15) w) (by kernel_rfl) (by intros; kernel_rfl)
def c19_2_s:=@seq19 c19_2 c19_3 c19_4 (by kernel_rfl)
def c19_1_s:=@reg19 c19_1 c19_2 1 (rO (cL c19_1)) (fun N M G k e w =>
 M (e 0) fun t6 =>
 M (e 1) fun t7 =>
 N (xcall (.func (.func 44) #[] #[]) [t6, t7]) w fun t8 w =>
 M t8 fun t5 =>
 k (Env.p e 5 t5) w) (by kernel_rfl) (by intros; kernel_rfl)
def c19_s:=@reg19 c19 c19_1 0 (rO (cL c19)) (fun N M G k e w =>
 M (.int .i64 0) fun t4 =>
 k (Env.p e 4 t4) w) (by kernel_rfl) (by intros; kernel_rfl)
theorem call19 {a0 a1 : Value} {w : World} {R : Value → World → Prop} (h : W3 Tryz.prog 27 V19 c19 (retQ Tryz.prog [.tmp 4] R) (argE [a0, a1]) w) : CallsN Tryz.prog 19 [a0, a1] w R :=
 callsN_of_W3 (c := c19) (rs := [.tmp 4]) V19 Tryz.ntmps19 (by rw [Tryz.results19]) mixed Tryz.func19 (by kernel_rfl) (by kernel_rfl) (by kernel_rfl) (by kernel_rfl) (by simp) h
def w3t_19:=w3t Tryz.prog 27 V19
def hk19 := aI @c19_3_s <| aI @c19_6_s <| aI @c19_5_s <| aI @c19_4_s <| aI @c19_2_s <| aI @c19_1_s <| aI @c19_s <| @w3t_19
-- K19: ↓hk19
/-! ### (*vouch/vouchref05.Store) . All -/
def V44 : Nat → Bool := fun i => [0, 1, 4, 5, 6, 13, 26].elem i
def block44:=@s_block Tryz.prog 49 V44
def cond44:=@s_cond Tryz.prog 49 V44
def drwE44:=@s_drwE Tryz.prog 49 V44
def loop44:=@s_loop Tryz.prog 49 V44
def reg44:=@s_reg Tryz.prog 49 V44
def rend44:=@s_rend Tryz.prog 49 V44
def seq44:=@s_seq Tryz.prog 49 V44
noncomputable def c44:Code:=(Tryz.f44.body.getD .skip)
noncomputable def c44_1:=cR c44
noncomputable def c44_2:=cR c44_1
noncomputable def c44_3:=cR c44_2
noncomputable def c44_4:=cL c44_2
noncomputable def c44_5:=cR c44_4
noncomputable def c44_6:=cL c44_5
noncomputable def c44_7:=cL c44_6
noncomputable def c44_8:=cR c44_7
noncomputable def c44_9:=cR c44_8
noncomputable def c44_10:=cL c44_8
noncomputable def c44_11:=cL c44_10
noncomputable def c44_12:=cR c44_11
noncomputable def c44_13:=cL c44_12
noncomputable def b44_6:List Row:=[(0, 0, 32, 28, true), (0, 0, 1, 29, true), (2, 2, 268435456, 30, true), (4, 6, 536870912, 31, true), (8, 14, 1073741824, 32, true), (0, 0, 64, 33, true), (48, 62, 6442450944, 34, true), (64, 126, 8589934592, 35, true), (128, 254, 17179869184, 36, true), (0, 0, 1, 37, true), (512, 512, 68719476736, 38, true), (1024, 1536, 137438953472, 39, true), (2048, 3584, 274877906944, 40, true), (0, 0, 64, 41, true), (12288, 15872, 1649267441664, 42, true), (16384, 32256, 2199023255552, 43, true), (32768, 65024, 4398046511104, 44, true), (65536, 130560, 8796093022208, 45, true), (131328, 262142, 17626545782784, 46, true), (262144, 524286, 35184372088832, 47, false), (524289, 1048575, 70368878395392, 48, false), (2097151, 2097151, 140737488355328, 6, true)]
noncomputable def c44_14:=cL c44_7
noncomputable def c44_15:=cR c44_14
def c44_3_s:=@reg44 c44_3 .ret 7 (rO (cL c44_3)) (fun N M G k e w =>
 M (e 5) fun t48 =>
 M t48 fun t4 =>
 k (Env.p e 4 t4) w) (by kernel_rfl) (by intros; kernel_rfl)
def c44_9_s:=@rend44 c44_9 4 (rO c44_9) (fun N M G k e w =>
 M (e 6) fun t14 =>
 N (xv (xbin .add 3 (.tmp 14) (.const (.int .i64 1)) t14 (.int .i64 1))) w fun t15 w =>
 M t15 fun t6 =>
 k (Env.p e 6 t6) w) (by kernel_rfl) (by intros; kernel_rfl)
def c44_13_s:=@drwE44 c44_13 6 (rO c44_13) b44_6 22 (fun N T M G H Y k e w =>
 M (e 5) fun t27 =>
 M (e 0) fun t28 =>
 T (FrX none w) (xnil t28) fun t29 =>
 T (FrX none w) (xv (fieldAt 44 t29 0)) fun t30 =>
 T (FrX (some []) w) (xv (loadAt 42 t30)) fun t31 =>
 M (e 6) fun t32 =>
 T (FrX none w) (xv (indexAt 42 t31 t32)) fun t33 =>
 T (FrX none w) (xv (fieldAt 131 t33 0)) fun t34 =>
 T (FrX (some []) w) (xv (loadAt 2 t34)) fun t35 =>
 M (e 0) fun t36 =>
 T (FrX none w) (xnil t36) fun t37 =>
 T (FrX none w) (xv (fieldAt 44 t37 0)) fun t38 =>
 T (FrX (some []) w) (xv (loadAt 42 t38)) fun t39 =>
 M (e 6) fun t40 =>
 T (FrX none w) (xv (indexAt 42 t39 t40)) fun t41 =>
 T (FrX none w) (xv (fieldAt 131 t41 1)) fun t42 =>
 T (FrX none w) (xv (fieldAt 66 t42 1)) fun t43 =>
 T (FrX (some []) w) (xv (loadAt 35 t43)) fun t44 =>
 T (FrX none w) (xv (Instr.build 94 ([(0, t35), (1, t44)]).toArray)) fun t45 =>
 N (xv (Instr.buildSlice 91 1 ([(0, t45)]).toArray)) w fun t46 w19 =>
 N (builtin Builtin.append #[91, 91] 91 ([false, false]).toArray ([t27, t46]).toArray) w19 fun t47 w20 =>
 M t47 fun t5 =>
 k (Env.p e 5 t5) w20) (by kernel_rfl) (by kernel_rfl) (by kernel_rfl) (by intros; kernel_rfl)
def c44_12_s:=@cond44 c44_12 .skip 26 c44_13 (by kernel_rfl) (by kernel_rfl)
def c44_11_s:=@reg44 c44_11 c44_12 5 (rO (cL c44_11)) (fun N M G k e w =>
 M (e 0) fun t16 =>
 N (xnil t16) w fun t17 w =>
 N (xv (fieldAt 44 t17 0)) w fun t18 w =>
 N (xv (loadAt 42 t18)) w fun t19 w =>
 M (e 6) fun t20 =>
 N (xv (indexAt 42 t19 t20)) w fun t21 w =>
 N (xv (fieldAt 131 t21 1)) w fun t22 w =>
 N (xv (fieldAt 66 t22 0)) w fun t23 w =>
 N (xv (loadAt 9 t23)) w fun t24 w =>
 M (e 1) fun t25 =>
 N (xv (xbin .eql 9 (.tmp 24) (.tmp 25) t24 t25)) w fun t26 w =>
 k (Env.p e 26 t26) w) (by kernel_rfl) (by intros; kernel_rfl)
def c44_10_s:=@block44 c44_10 c44_11 1 (by kernel_rfl)
def c44_8_s:=@seq44 c44_8 c44_9 c44_10 (by kernel_rfl)
def c44_15_s:=@cond44 c44_15 (.exit 0) 13 .skip (by kernel_rfl) (by kernel_rfl)
def c44_14_s:=@reg44 c44_14 c44_15 3 (rO (cL c44_14)) (fun N M G k e w =>
 M (e 6) fun t7 =>
 M (e 0) fun t8 =>
 N (xnil t8) w fun t9 w =>
 N (xv (fieldAt 44 t9 0)) w fun t10 w =>
 N (xv (loadAt 42 t10)) w fun t11 w =>
 N (builtin Builtin.len #[42] 3 ([false]).toArray ([t11]).toArray) w fun t12 w =>
 N (xv (xbin .lss 3 (.tmp 7) (.tmp 12) t7 t12)) w fun t13 w =>
 k (Env.p e 13 t13) w) (by kernel_rfl) (by intros; kernel_rfl)
def c44_7_s:=@seq44 c44_7 c44_8 c44_14 (by kernel_rfl)
def c44_6_s:=@loop44 c44_6 c44_7 (by kernel_rfl)
def c44_5_s:=@block44 c44_5 c44_6 0 (by kernel_rfl)
def c44_4_s:=@reg44 c44_4 c44_5 2 (rO (cL c44_4)) (fun N M G k e w =>
 M (.int .i64 0) fun t6 =>
 k (Env.p e 6 t6) w) (by kernel_rfl) (by intros; kernel_rfl)
def c44_2_s:=@seq44 c44_2 c44_3 c44_4 (by kernel_rfl)
def c44_1_s:=@reg44 c44_1 c44_2 1 (rO (cL c44_1)) (fun N M G k e w =>
 M (.slice none 0 0) fun t5 =>
 k (Env.p e 5 t5) w) (by kernel_rfl) (by intros; kernel_rfl)
def c44_s:=@reg44 c44 c44_1 0 (rO (cL c44)) (fun N M G k e w =>
 M (.slice none 0 0) fun t4 =>
 k (Env.p e 4 t4) w) (by kernel_rfl) (by intros; kernel_rfl)
theorem call44 {a0 a1 : Value} {w : World} {R : Value → World → Prop} (h : W3 Tryz.prog 49 V44 c44 (retQ Tryz.prog [.tmp 4] R) (argE [a0, a1]) w) : CallsN Tryz.prog 44 [a0, a1] w R :=
 callsN_of_W3 (c := c44) (rs := [.tmp 4]) V44 Tryz.ntmps44 (by rw [Tryz.results44]) mixed Tryz.func44 (by kernel_rfl) (by kernel_rfl) (by kernel_rfl) (by kernel_rfl) (by simp) h
def w3t_44:=w3t Tryz.prog 49 V44
def hk44 := aI @c44_3_s <| aI @c44_9_s <| aI @c44_13_s <| aI @c44_12_s <| aI @c44_11_s <| aI @c44_10_s <| aI @c44_8_s <| aI @c44_15_s <| aI @c44_14_s <| aI @c44_7_s <| aI @c44_6_s <| aI @c44_5_s <| aI @c44_4_s <| aI @c44_2_s <| aI @c44_1_s <| aI @c44_s <| @w3t_44
-- K44: ↓hk44
/-! ### (*vouch/vouchref05.Store) . Truth -/
def V42 : Nat → Bool := fun i => [0, 1, 2, 6, 7, 8, 9, 10, 19, 28, 45, 54].elem i
def block42:=@s_block Tryz.prog 62 V42
def cond42:=@s_cond Tryz.prog 62 V42
def loop42:=@s_loop Tryz.prog 62 V42
def reg42:=@s_reg Tryz.prog 62 V42
def rend42:=@s_rend Tryz.prog 62 V42
def seq42:=@s_seq Tryz.prog 62 V42
noncomputable def c42:Code:=(Tryz.f42.body.getD .skip)
noncomputable def c42_1:=cR c42
noncomputable def c42_2:=cR c42_1
noncomputable def c42_3:=cR c42_2
noncomputable def c42_4:=cR c42_3
noncomputable def c42_5:=cR c42_4
noncomputable def c42_6:=cL c42_4
noncomputable def c42_7:=cR c42_6
noncomputable def c42_8:=cL c42_7
noncomputable def c42_9:=cL c42_8
noncomputable def c42_10:=cR c42_9
noncomputable def c42_11:=cR c42_10
noncomputable def c42_12:=cL c42_10
noncomputable def c42_13:=cL c42_12
noncomputable def c42_14:=cR c42_13
noncomputable def c42_15:=cL c42_14
noncomputable def c42_16:=cL c42_9
noncomputable def c42_17:=cR c42_16
noncomputable def c42_18:=cL c42_3
noncomputable def c42_19:=cR c42_18
noncomputable def c42_20:=cL c42_19
noncomputable def c42_21:=cL c42_20
noncomputable def c42_22:=cR c42_21
noncomputable def c42_23:=cR c42_22
noncomputable def c42_24:=cL c42_22
noncomputable def c42_25:=cL c42_24
noncomputable def c42_26:=cR c42_25
noncomputable def c42_27:=cL c42_26
noncomputable def c42_28:=cR c42_27
noncomputable def c42_29:=cL c42_21
noncomputable def c42_30:=cR c42_29
def c42_5_s:=@reg42 c42_5 .ret 14 (rO (cL c42_5)) (fun N M G k e w =>
 N (xv (loadAt 57 (e 7))) w fun t61 w =>
 N (xu (storeAt 57 (e 6) t61)) w fun _ w =>
 k e w) (by kernel_rfl) (by intros; kernel_rfl)
def c42_11_s:=@rend42 c42_11 11 (rO c42_11) (fun N M G k e w =>
 M (e 10) fun t46 =>
 N (xv (xbin .sub 3 (.tmp 46) (.const (.int .i64 1)) t46 (.int .i64 1))) w fun t47 w =>
 M t47 fun t10 =>
 k (Env.p e 10 t10) w) (by kernel_rfl) (by intros; kernel_rfl)
def c42_15_s:=@rend42 c42_15 13 (rO c42_15) (fun N M G k e w =>
 M (e 8) fun t55 =>
 M (e 10) fun t56 =>
 N (xv (indexAt 91 t55 t56)) w fun t57 w =>
 N (xv (fieldAt 94 t57 0)) w fun t58 w =>
 N (xv (loadAt 2 t58)) w fun t59 w =>
 N (xv (fieldAt 57 (e 7) 3)) w fun t60 w =>
 N (xu (storeAt 2 t60 t59)) w fun _ w =>
 k e w) (by kernel_rfl) (by intros; kernel_rfl)
def c42_14_s:=@cond42 c42_14 .skip 54 c42_15 (by kernel_rfl) (by kernel_rfl)
def c42_13_s:=@reg42 c42_13 c42_14 12 (rO (cL c42_13)) (fun N M G k e w =>
 M (e 8) fun t48 =>
 M (e 10) fun t49 =>
 N (xv (indexAt 91 t48 t49)) w fun t50 w =>
 N (xv (fieldAt 94 t50 0)) w fun t51 w =>
 N (xv (loadAt 2 t51)) w fun t52 w =>
 M (e 2) fun t53 =>
 N (xv (xbin .gtr 2 (.tmp 52) (.tmp 53) t52 t53)) w fun t54 w =>
 k (Env.p e 54 t54) w) (by kernel_rfl) (by intros; kernel_rfl)
def c42_12_s:=@block42 c42_12 c42_13 3 (by kernel_rfl)
def c42_10_s:=@seq42 c42_10 c42_11 c42_12 (by kernel_rfl)
def c42_17_s:=@cond42 c42_17 (.exit 2) 45 .skip (by kernel_rfl) (by kernel_rfl)
def c42_16_s:=@reg42 c42_16 c42_17 10 (rO (cL c42_16)) (fun N M G k e w =>
 M (e 10) fun t44 =>
 N (xv (xbin .geq 3 (.tmp 44) (.const (.int .i64 0)) t44 (.int .i64 0))) w fun t45 w =>
 k (Env.p e 45 t45) w) (by kernel_rfl) (by intros; kernel_rfl)
def c42_9_s:=@seq42 c42_9 c42_10 c42_16 (by kernel_rfl)
def c42_8_s:=@loop42 c42_8 c42_9 (by kernel_rfl)
def c42_7_s:=@block42 c42_7 c42_8 2 (by kernel_rfl)
def c42_6_s:=@reg42 c42_6 c42_7 9 (rO (cL c42_6)) (fun N M G k e w =>
 M (e 8) fun t41 =>
 N (builtin Builtin.len #[91] 3 ([false]).toArray ([t41]).toArray) w fun t42 w =>
 N (xv (xbin .sub 3 (.tmp 42) (.const (.int .i64 1)) t42 (.int .i64 1))) w fun t43 w =>
 M t43 fun t10 =>
 k (Env.p e 10 t10) w) (by kernel_rfl) (by intros; kernel_rfl)
def c42_4_s:=@seq42 c42_4 c42_5 c42_6 (by kernel_rfl)
def c42_23_s:=@rend42 c42_23 5 (rO c42_23) (fun N M G k e w =>
 M (e 9) fun t20 =>
 N (xv (xbin .add 3 (.tmp 20) (.const (.int .i64 1)) t20 (.int .i64 1))) w fun t21 w =>
 M t21 fun t9 =>
 k (Env.p e 9 t9) w) (by kernel_rfl) (by intros; kernel_rfl)
def c42_28_s:=@rend42 c42_28 8 (rO c42_28) (fun N M G k e w =>
 M (e 8) fun t35 =>
 M (e 9) fun t36 =>
 N (xv (indexAt 91 t35 t36)) w fun t37 w =>
 N (xv (fieldAt 94 t37 1)) w fun t38 w =>
 N (xv (loadAt 35 t38)) w fun t39 w =>
 N (xv (fieldAt 57 (e 7) 1)) w fun t40 w =>
 N (xu (storeAt 35 t40 t39)) w fun _ w =>
 k e w) (by kernel_rfl) (by intros; kernel_rfl)
def c42_27_s:=@reg42 c42_27 c42_28 7 (rO (cL c42_27)) (fun N M G k e w =>
 M (e 8) fun t29 =>
 M (e 9) fun t30 =>
 N (xv (indexAt 91 t29 t30)) w fun t31 w =>
 N (xv (fieldAt 94 t31 0)) w fun t32 w =>
 N (xv (loadAt 2 t32)) w fun t33 w =>
 N (xv (fieldAt 57 (e 7) 2)) w fun t34 w =>
 N (xu (storeAt 2 t34 t33)) w fun _ w =>
 k e w) (by kernel_rfl) (by intros; kernel_rfl)
def c42_26_s:=@cond42 c42_26 .skip 28 c42_27 (by kernel_rfl) (by kernel_rfl)
def c42_25_s:=@reg42 c42_25 c42_26 6 (rO (cL c42_25)) (fun N M G k e w =>
 M (e 8) fun t22 =>
 M (e 9) fun t23 =>
 N (xv (indexAt 91 t22 t23)) w fun t24 w =>
 N (xv (fieldAt 94 t24 0)) w fun t25 w =>
 N (xv (loadAt 2 t25)) w fun t26 w =>
 M (e 2) fun t27 =>
 N (xv (xbin .leq 2 (.tmp 26) (.tmp 27) t26 t27)) w fun t28 w =>
 k (Env.p e 28 t28) w) (by kernel_rfl) (by intros; kernel_rfl)
def c42_24_s:=@block42 c42_24 c42_25 1 (by kernel_rfl)
def c42_22_s:=@seq42 c42_22 c42_23 c42_24 (by kernel_rfl)
def c42_30_s:=@cond42 c42_30 (.exit 0) 19 .skip (by kernel_rfl) (by kernel_rfl)
def c42_29_s:=@reg42 c42_29 c42_30 4 (rO (cL c42_29)) (fun N M G k e w =>
 M (e 9) fun t16 =>
 M (e 8) fun t17 =>
 N (builtin Builtin.len #[91] 3 ([false]).toArray ([t17]).toArray) w fun t18 w =>
 N (xv (xbin .lss 3 (.tmp 16) (.tmp 18) t16 t18)) w fun t19 w =>
 k (Env.p e 19 t19) w) (by kernel_rfl) (by intros; kernel_rfl)
def c42_21_s:=@seq42 c42_21 c42_22 c42_29 (by kernel_rfl)
def c42_20_s:=@loop42 c42_20 c42_21 (by kernel_rfl)
def c42_19_s:=@block42 c42_19 c42_20 0 (by kernel_rfl)
def c42_18_s:=@reg42 c42_18 c42_19 3 (rO (cL c42_18)) (fun N M G k e w =>
 M (.int .i64 0) fun t9 =>
 k (Env.p e 9 t9) w) (by kernel_rfl) (by intros; kernel_rfl)
def c42_3_s:=@seq42 c42_3 c42_4 c42_18 (by kernel_rfl)
def c42_2_s:=@reg42 c42_2 c42_3 2 (rO (cL c42_2)) (fun N M G k e w =>
 M (e 0) fun t13 =>
 M (e 1) fun t14 =>
 N (xcall (.func (.func 44) #[] #[]) [t13, t14]) w fun t15 w =>
 M t15 fun t8 =>
 k (Env.p e 8 t8) w) (by kernel_rfl) (by intros; kernel_rfl)
def c42_1_s:=@reg42 c42_1 c42_2 1 (rO (cL c42_1)) (fun N M G k e w =>
 M (e 1) fun t11 =>
 N (xv (Instr.build 57 ([(0, t11), (3, (.int .i64 4611686018427387904))]).toArray)) w fun t12 w =>
 N (xv (Instr.alloc 57 true (.tuple #[]))) w fun t7 w =>
 N (xu (storeAt 57 t7 t12)) w fun _ w =>
 k (Env.p e 7 t7) w) (by kernel_rfl) (by intros; kernel_rfl)
def c42_s:=@reg42 c42 c42_1 0 (rO (cL c42)) (fun N M G k e w =>
 N (xv (Instr.alloc 57 true (.tuple #[]))) w fun t6 w =>
 k (Env.p e 6 t6) w) (by kernel_rfl) (by intros; kernel_rfl)
theorem call42 {a0 a1 a2 : Value} {w : World} {R : Value → World → Prop} (h : W3 Tryz.prog 62 V42 c42 (retQ Tryz.prog [.cell 6 57] R) (argE [a0, a1, a2]) w) : CallsN Tryz.prog 42 [a0, a1, a2] w R :=
 callsN_of_W3 (c := c42) (rs := [.cell 6 57]) V42 Tryz.ntmps42 (by rw [Tryz.results42]) mixed Tryz.func42 (by kernel_rfl) (by kernel_rfl) (by kernel_rfl) (by kernel_rfl) (by simp) h
def w3t_42:=w3t Tryz.prog 62 V42
def hk42 := aI @c42_5_s <| aI @c42_11_s <| aI @c42_15_s <| aI @c42_14_s <| aI @c42_13_s <| aI @c42_12_s <| aI @c42_10_s <| aI @c42_17_s <| aI @c42_16_s <| aI @c42_9_s <| aI @c42_8_s <| aI @c42_7_s <| aI @c42_6_s <| aI @c42_4_s <| aI @c42_23_s <| aI @c42_28_s <| aI @c42_27_s <| aI @c42_26_s <| aI @c42_25_s <| aI @c42_24_s <| aI @c42_22_s <| aI @c42_30_s <| aI @c42_29_s <| aI @c42_21_s <| aI @c42_20_s <| aI @c42_19_s <| aI @c42_18_s <| aI @c42_3_s <| aI @c42_2_s <| aI @c42_1_s <| aI @c42_s <| @w3t_42
-- K42: ↓hk42
/-! ### vouch/vouchref05.New -/
def V29 : Nat → Bool := fun i => [0, 2, 4, 6].elem i
def cond29:=@s_cond Tryz.prog 10 V29
def reg29:=@s_reg Tryz.prog 10 V29
def rend29:=@s_rend Tryz.prog 10 V29
def seq29:=@s_seq Tryz.prog 10 V29
noncomputable def c29:Code:=(Tryz.f29.body.getD .skip)
noncomputable def c29_1:=cR c29
noncomputable def c29_2:=cR c29_1
noncomputable def c29_3:=cR c29_2
noncomputable def c29_4:=cL c29_2
noncomputable def c29_5:=cR c29_4
noncomputable def c29_6:=cL c29_5
noncomputable def c29_7:=cL c29_1
noncomputable def c29_8:=cR c29_7
noncomputable def c29_9:=cL c29_8
def c29_3_s:=@reg29 c29_3 .ret 5 (rO (cL c29_3)) (fun N M G k e w =>
 M (e 0) fun t7 =>
 N (xv (Instr.build 44 ([(1, t7)]).toArray)) w fun t8 w =>
 N (xv (Instr.box 44 t8)) w fun t9 w =>
 M t9 fun t2 =>
 k (Env.p e 2 t2) w) (by kernel_rfl) (by intros; kernel_rfl)
def c29_6_s:=@rend29 c29_6 4 (rO c29_6) (fun N M G k e w =>
 M (.int .i64 64) fun t0 =>
 k (Env.p e 0 t0) w) (by kernel_rfl) (by intros; kernel_rfl)
def c29_5_s:=@cond29 c29_5 .skip 6 c29_6 (by kernel_rfl) (by kernel_rfl)
def c29_4_s:=@reg29 c29_4 c29_5 3 (rO (cL c29_4)) (fun N M G k e w =>
 M (e 0) fun t5 =>
 N (xv (xbin .gtr 3 (.tmp 5) (.const (.int .i64 64)) t5 (.int .i64 64))) w fun t6 w =>
 k (Env.p e 6 t6) w) (by kernel_rfl) (by intros; kernel_rfl)
def c29_2_s:=@seq29 c29_2 c29_3 c29_4 (by kernel_rfl)
def c29_9_s:=@rend29 c29_9 2 (rO c29_9) (fun N M G k e w =>
 M (.int .i64 1) fun t0 =>
 k (Env.p e 0 t0) w) (by kernel_rfl) (by intros; kernel_rfl)
def c29_8_s:=@cond29 c29_8 .skip 4 c29_9 (by kernel_rfl) (by kernel_rfl)
def c29_7_s:=@reg29 c29_7 c29_8 1 (rO (cL c29_7)) (fun N M G k e w =>
 M (e 0) fun t3 =>
 N (xv (xbin .lss 3 (.tmp 3) (.const (.int .i64 1)) t3 (.int .i64 1))) w fun t4 w =>
 k (Env.p e 4 t4) w) (by kernel_rfl) (by intros; kernel_rfl)
def c29_1_s:=@seq29 c29_1 c29_2 c29_7 (by kernel_rfl)
def c29_s:=@reg29 c29 c29_1 0 (rO (cL c29)) (fun N M G k e w =>
 M (.pointer none) fun t2 =>
 k (Env.p e 2 t2) w) (by kernel_rfl) (by intros; kernel_rfl)
theorem call29 {a0 : Value} {w : World} {R : Value → World → Prop} (h : W3 Tryz.prog 10 V29 c29 (retQ Tryz.prog [.tmp 2] R) (argE [a0]) w) : CallsN Tryz.prog 29 [a0] w R :=
 callsN_of_W3 (c := c29) (rs := [.tmp 2]) V29 Tryz.ntmps29 (by rw [Tryz.results29]) mixed Tryz.func29 (by kernel_rfl) (by kernel_rfl) (by kernel_rfl) (by kernel_rfl) (by simp) h
def w3t_29:=w3t Tryz.prog 10 V29
def hk29 := aI @c29_3_s <| aI @c29_6_s <| aI @c29_5_s <| aI @c29_4_s <| aI @c29_2_s <| aI @c29_9_s <| aI @c29_8_s <| aI @c29_7_s <| aI @c29_1_s <| aI @c29_s <| @w3t_29
-- K29: ↓hk29
/-! ### (*vouch/vouchref06.Log) . Append -/
def V68 : Nat → Bool := fun i => [0, 1, 4, 5, 6, 7, 8, 12].elem i
def cond68:=@s_cond Tryz.prog 36 V68
def reg68:=@s_reg Tryz.prog 36 V68
def seq68:=@s_seq Tryz.prog 36 V68
noncomputable def c68:Code:=(Tryz.f68.body.getD .skip)
noncomputable def c68_1:=cR c68
noncomputable def c68_2:=cR c68_1
noncomputable def c68_3:=cR c68_2
noncomputable def c68_4:=cR c68_3
noncomputable def c68_5:=cR c68_4
noncomputable def c68_6:=cR c68_5
noncomputable def c68_7:=cR c68_6
noncomputable def c68_8:=cL c68_2
noncomputable def c68_9:=cR c68_8
noncomputable def c68_10:=cL c68_9
def c68_7_s:=@reg68 c68_7 .ret 8 (rO (cL c68_7)) (fun N M G k e w =>
 M (e 8) fun t35 =>
 M t35 fun t4 =>
 M (.int .i64 0) fun t5 =>
 k (Env.p (Env.p e 4 t4) 5 t5) w) (by kernel_rfl) (by intros; kernel_rfl)
def c68_6_s:=@reg68 c68_6 c68_7 7 (rO (cL c68_6)) (fun N M G k e w =>
 M (e 0) fun t23 =>
 M (e 0) fun t24 =>
 N (xnil t24) w fun t25 w =>
 N (xv (fieldAt 47 t25 0)) w fun t26 w =>
 N (xv (loadAt 45 t26)) w fun t27 w =>
 M (e 8) fun t28 =>
 M (e 7) fun t29 =>
 N (xv (Instr.build 86 ([(0, t28), (1, t29)]).toArray)) w fun t30 w =>
 N (xv (Instr.buildSlice 45 1 ([(0, t30)]).toArray)) w fun t31 w =>
 N (builtin Builtin.append #[45, 45] 45 ([false, false]).toArray ([t27, t31]).toArray) w fun t32 w =>
 N (xnil t23) w fun t33 w =>
 N (xv (fieldAt 47 t33 0)) w fun t34 w =>
 N (xu (storeAt 45 t34 t32)) w fun _ w =>
 k e w) (by kernel_rfl) (by intros; kernel_rfl)
def c68_5_s:=@reg68 c68_5 c68_6 6 (rO (cL c68_5)) (fun N M G k e w =>
 M (e 0) fun t17 =>
 N (xnil t17) w fun t18 w =>
 N (xv (fieldAt 47 t18 0)) w fun t19 w =>
 N (xv (loadAt 45 t19)) w fun t20 w =>
 N (builtin Builtin.len #[45] 3 ([false]).toArray ([t20]).toArray) w fun t21 w =>
 N (xv (xbin .add 2 (.tmp 21) (.const (.int .i64 1)) t21 (.int .i64 1))) w fun t22 w =>
 M t22 fun t8 =>
 k (Env.p e 8 t8) w) (by kernel_rfl) (by intros; kernel_rfl)
def c68_4_s:=@reg68 c68_4 c68_5 5 (rO (cL c68_4)) (fun N M G k e w =>
 M (e 7) fun t14 =>
 M (e 1) fun t15 =>
 N (builtin Builtin.append #[38, 38] 38 ([false, false]).toArray ([t14, t15]).toArray) w fun t16 w =>
 M t16 fun t7 =>
 k (Env.p e 7 t7) w) (by kernel_rfl) (by intros; kernel_rfl)
def c68_3_s:=@reg68 c68_3 c68_4 4 (rO (cL c68_3)) (fun N M G k e w =>
 M (.slice none 0 0) fun t7 =>
 k (Env.p e 7 t7) w) (by kernel_rfl) (by intros; kernel_rfl)
def c68_10_s:=@reg68 c68_10 .ret 3 (rO (cL c68_10)) (fun N M G k e w =>
 M (e 6) fun t13 =>
 M (.int .i64 0) fun t4 =>
 M t13 fun t5 =>
 k (Env.p (Env.p e 4 t4) 5 t5) w) (by kernel_rfl) (by intros; kernel_rfl)
def c68_9_s:=@cond68 c68_9 .skip 12 c68_10 (by kernel_rfl) (by kernel_rfl)
def c68_8_s:=@reg68 c68_8 c68_9 2 (rO (cL c68_8)) (fun N M G k e w =>
 M (e 6) fun t11 =>
 N (xv (xbin .neq 3 (.tmp 11) (.const (.int .i64 0)) t11 (.int .i64 0))) w fun t12 w =>
 k (Env.p e 12 t12) w) (by kernel_rfl) (by intros; kernel_rfl)
def c68_2_s:=@seq68 c68_2 c68_3 c68_8 (by kernel_rfl)
def c68_1_s:=@reg68 c68_1 c68_2 1 (rO (cL c68_1)) (fun N M G k e w =>
 M (e 1) fun t9 =>
 N (xcall (.func (.func 94) #[] #[]) [t9]) w fun t10 w =>
 M t10 fun t6 =>
 k (Env.p e 6 t6) w) (by kernel_rfl) (by intros; kernel_rfl)
def c68_s:=@reg68 c68 c68_1 0 (rO (cL c68)) (fun N M G k e w =>
 M (.int .i64 0) fun t4 =>
 M (.int .i64 0) fun t5 =>
 k (Env.p (Env.p e 4 t4) 5 t5) w) (by kernel_rfl) (by intros; kernel_rfl)
theorem call68 {a0 a1 : Value} {w : World} {R : Value → World → Prop} (h : W3 Tryz.prog 36 V68 c68 (retQ Tryz.prog [.tmp 4, .tmp 5] R) (argE [a0, a1]) w) : CallsN Tryz.prog 68 [a0, a1] w R :=
 callsN_of_W3 (c := c68) (rs := [.tmp 4, .tmp 5]) V68 Tryz.ntmps68 (by rw [Tryz.results68]) mixed Tryz.func68 (by kernel_rfl) (by kernel_rfl) (by kernel_rfl) (by kernel_rfl) (by simp) h
def w3t_68:=w3t Tryz.prog 36 V68
def hk68 := aI @c68_7_s <| aI @c68_6_s <| aI @c68_5_s <| aI @c68_4_s <| aI @c68_3_s <| aI @c68_10_s <| aI @c68_9_s <| aI @c68_8_s <| aI @c68_2_s <| aI @c68_1_s <| aI @c68_s <| @w3t_68
-- K68: ↓hk68
/-! ### (*vouch/vouchref06.Log) . From -/
def V15 : Nat → Bool := fun i => [0, 1, 2, 6, 7, 8, 21, 33].elem i
def block15:=@s_block Tryz.prog 45 V15
def cond15:=@s_cond Tryz.prog 45 V15
def loop15:=@s_loop Tryz.prog 45 V15
def reg15:=@s_reg Tryz.prog 45 V15
def rend15:=@s_rend Tryz.prog 45 V15
def seq15:=@s_seq Tryz.prog 45 V15
noncomputable def c15:Code:=(Tryz.f15.body.getD .skip)
noncomputable def c15_1:=cR c15
noncomputable def c15_2:=cR c15_1
noncomputable def c15_3:=cR c15_2
noncomputable def c15_4:=cL c15_2
noncomputable def c15_5:=cR c15_4
noncomputable def c15_6:=cL c15_5
noncomputable def c15_7:=cL c15_6
noncomputable def c15_8:=cR c15_7
noncomputable def c15_9:=cR c15_8
noncomputable def c15_10:=cL c15_8
noncomputable def c15_11:=cL c15_10
noncomputable def c15_12:=cR c15_11
noncomputable def c15_13:=cL c15_12
noncomputable def c15_14:=cL c15_7
noncomputable def c15_15:=cR c15_14
def c15_3_s:=@reg15 c15_3 .ret 7 (rO (cL c15_3)) (fun N M G k e w =>
 M (e 7) fun t44 =>
 M t44 fun t6 =>
 k (Env.p e 6 t6) w) (by kernel_rfl) (by intros; kernel_rfl)
def c15_9_s:=@rend15 c15_9 4 (rO c15_9) (fun N M G k e w =>
 M (e 8) fun t22 =>
 N (xv (xbin .add 3 (.tmp 22) (.const (.int .i64 1)) t22 (.int .i64 1))) w fun t23 w =>
 M t23 fun t8 =>
 k (Env.p e 8 t8) w) (by kernel_rfl) (by intros; kernel_rfl)
def c15_13_s:=@rend15 c15_13 6 (rO c15_13) (fun N M G k e w =>
 M (e 7) fun t34 =>
 M (e 0) fun t35 =>
 N (xnil t35) w fun t36 w =>
 N (xv (fieldAt 47 t36 0)) w fun t37 w =>
 N (xv (loadAt 45 t37)) w fun t38 w =>
 M (e 8) fun t39 =>
 N (xv (indexAt 45 t38 t39)) w fun t40 w =>
 N (xv (loadAt 86 t40)) w fun t41 w =>
 N (xv (Instr.buildSlice 45 1 ([(0, t41)]).toArray)) w fun t42 w =>
 N (builtin Builtin.append #[45, 45] 45 ([false, false]).toArray ([t34, t42]).toArray) w fun t43 w =>
 M t43 fun t7 =>
 k (Env.p e 7 t7) w) (by kernel_rfl) (by intros; kernel_rfl)
def c15_12_s:=@cond15 c15_12 .skip 33 c15_13 (by kernel_rfl) (by kernel_rfl)
def c15_11_s:=@reg15 c15_11 c15_12 5 (rO (cL c15_11)) (fun N M G k e w =>
 M (e 0) fun t24 =>
 N (xnil t24) w fun t25 w =>
 N (xv (fieldAt 47 t25 0)) w fun t26 w =>
 N (xv (loadAt 45 t26)) w fun t27 w =>
 M (e 8) fun t28 =>
 N (xv (indexAt 45 t27 t28)) w fun t29 w =>
 N (xv (fieldAt 86 t29 0)) w fun t30 w =>
 N (xv (loadAt 2 t30)) w fun t31 w =>
 M (e 1) fun t32 =>
 N (xv (xbin .geq 2 (.tmp 31) (.tmp 32) t31 t32)) w fun t33 w =>
 k (Env.p e 33 t33) w) (by kernel_rfl) (by intros; kernel_rfl)
def c15_10_s:=@block15 c15_10 c15_11 1 (by kernel_rfl)
def c15_8_s:=@seq15 c15_8 c15_9 c15_10 (by kernel_rfl)
def c15_15_s:=@cond15 c15_15 (.exit 0) 21 .skip (by kernel_rfl) (by kernel_rfl)
def c15_14_s:=@reg15 c15_14 c15_15 3 (rO (cL c15_14)) (fun N M G k e w =>
 M (e 8) fun t9 =>
 M (e 0) fun t10 =>
 N (xnil t10) w fun t11 w =>
 N (xv (fieldAt 47 t11 0)) w fun t12 w =>
 N (xv (loadAt 45 t12)) w fun t13 w =>
 N (builtin Builtin.len #[45] 3 ([false]).toArray ([t13]).toArray) w fun t14 w =>
 N (xv (xbin .lss 3 (.tmp 9) (.tmp 14) t9 t14)) w fun t15 w =>
 M t15 fun t16 =>
 G (isB t16 true) (fun K => M (e 7) fun v => K v w) (fun t17 w =>
 G (isB t16 true) (fun K => N (builtin Builtin.len #[45] 3 ([false]).toArray ([t17]).toArray) w K) (fun t18 w =>
 G (isB t16 true) (fun K => M (e 2) fun v => K v w) (fun t19 w =>
 G (isB t16 true) (fun K => N (xv (xbin .lss 3 (.tmp 18) (.tmp 19) t18 t19)) w K) (fun t20 w =>
 N (xpick t16 t20 (.bool false)) w fun t21 w =>
 k (Env.p e 21 t21) w) w) w) w) w) (by kernel_rfl) (by intros; kernel_rfl)
def c15_7_s:=@seq15 c15_7 c15_8 c15_14 (by kernel_rfl)
def c15_6_s:=@loop15 c15_6 c15_7 (by kernel_rfl)
def c15_5_s:=@block15 c15_5 c15_6 0 (by kernel_rfl)
def c15_4_s:=@reg15 c15_4 c15_5 2 (rO (cL c15_4)) (fun N M G k e w =>
 M (.int .i64 0) fun t8 =>
 k (Env.p e 8 t8) w) (by kernel_rfl) (by intros; kernel_rfl)
def c15_2_s:=@seq15 c15_2 c15_3 c15_4 (by kernel_rfl)
def c15_1_s:=@reg15 c15_1 c15_2 1 (rO (cL c15_1)) (fun N M G k e w =>
 M (.slice none 0 0) fun t7 =>
 k (Env.p e 7 t7) w) (by kernel_rfl) (by intros; kernel_rfl)
def c15_s:=@reg15 c15 c15_1 0 (rO (cL c15)) (fun N M G k e w =>
 M (.slice none 0 0) fun t6 =>
 k (Env.p e 6 t6) w) (by kernel_rfl) (by intros; kernel_rfl)
theorem call15 {a0 a1 a2 : Value} {w : World} {R : Value → World → Prop} (h : W3 Tryz.prog 45 V15 c15 (retQ Tryz.prog [.tmp 6] R) (argE [a0, a1, a2]) w) : CallsN Tryz.prog 15 [a0, a1, a2] w R :=
 callsN_of_W3 (c := c15) (rs := [.tmp 6]) V15 Tryz.ntmps15 (by rw [Tryz.results15]) mixed Tryz.func15 (by kernel_rfl) (by kernel_rfl) (by kernel_rfl) (by kernel_rfl) (by simp) h
def w3t_15:=w3t Tryz.prog 45 V15
def hk15 := aI @c15_3_s <| aI @c15_9_s <| aI @c15_13_s <| aI @c15_12_s <| aI @c15_11_s <| aI @c15_10_s <| aI @c15_8_s <| aI @c15_15_s <| aI @c15_14_s <| aI @c15_7_s <| aI @c15_6_s <| aI @c15_5_s <| aI @c15_4_s <| aI @c15_2_s <| aI @c15_1_s <| aI @c15_s <| @w3t_15
-- K15: ↓hk15
/-! ### vouch/vouchref06.Same -/
def V38 : Nat → Bool := fun i => [0, 1, 2, 3, 4, 5, 19, 24, 37].elem i
def block38:=@s_block Tryz.prog 38 V38
def cond38:=@s_cond Tryz.prog 38 V38
def drw38:=@s_drw Tryz.prog 38 V38
def loop38:=@s_loop Tryz.prog 38 V38
def reg38:=@s_reg Tryz.prog 38 V38
def rend38:=@s_rend Tryz.prog 38 V38
def seq38:=@s_seq Tryz.prog 38 V38
noncomputable def c38:Code:=(Tryz.f38.body.getD .skip)
noncomputable def c38_1:=cR c38
noncomputable def c38_2:=cR c38_1
noncomputable def c38_3:=cR c38_2
noncomputable def c38_4:=cL c38_2
noncomputable def c38_5:=cR c38_4
noncomputable def c38_6:=cL c38_5
noncomputable def c38_7:=cL c38_6
noncomputable def c38_8:=cR c38_7
noncomputable def c38_9:=cR c38_8
noncomputable def c38_10:=cL c38_8
noncomputable def c38_11:=cL c38_10
noncomputable def b38_6:List Row:=[(0, 0, 4, 28, true), (1, 1, 134217728, 29, true), (0, 0, 32, 30, true), (6, 7, 805306368, 31, true), (8, 15, 1073741824, 32, true), (0, 0, 8, 33, true), (32, 32, 4294967296, 34, true), (0, 0, 32, 35, true), (192, 224, 25769803776, 36, true), (256, 480, 34359738368, 37, true), (528, 1023, 70866960384, 38, true)]
noncomputable def c38_12:=cR c38_11
noncomputable def c38_13:=cL c38_12
noncomputable def c38_14:=cL c38_7
noncomputable def c38_15:=cR c38_14
noncomputable def c38_16:=cL c38_1
noncomputable def c38_17:=cR c38_16
noncomputable def c38_18:=cL c38_17
def c38_3_s:=@reg38 c38_3 .ret 8 (rO (cL c38_3)) (fun N M G k e w =>
 M (.bool true) fun t4 =>
 k (Env.p e 4 t4) w) (by kernel_rfl) (by intros; kernel_rfl)
def c38_9_s:=@rend38 c38_9 5 (rO c38_9) (fun N M G k e w =>
 M (e 5) fun t25 =>
 N (xv (xbin .add 3 (.tmp 25) (.const (.int .i64 1)) t25 (.int .i64 1))) w fun t26 w =>
 M t26 fun t5 =>
 k (Env.p e 5 t5) w) (by kernel_rfl) (by intros; kernel_rfl)
def c38_13_s:=@reg38 c38_13 .ret 7 (rO (cL c38_13)) (fun N M G k e w =>
 M (.bool false) fun t4 =>
 k (Env.p e 4 t4) w) (by kernel_rfl) (by intros; kernel_rfl)
def c38_12_s:=@cond38 c38_12 .skip 37 c38_13 (by kernel_rfl) (by kernel_rfl)
def c38_11_s:=@drw38 c38_11 c38_12 6 (rO (cL c38_11)) b38_6 11 (fun N T M G H Y k e w =>
 T (FrX none w) (xv (fieldAt 86 (e 2) 1)) fun t27 =>
 T (FrX (some []) w) (xv (loadAt 38 t27)) fun t28 =>
 M (e 5) fun t29 =>
 T (FrX none w) (xv (indexAt 38 t28 t29)) fun t30 =>
 T (FrX (some []) w) (xv (loadAt 9 t30)) fun t31 =>
 T (FrX none w) (xv (fieldAt 86 (e 3) 1)) fun t32 =>
 T (FrX (some []) w) (xv (loadAt 38 t32)) fun t33 =>
 M (e 5) fun t34 =>
 T (FrX none w) (xv (indexAt 38 t33 t34)) fun t35 =>
 T (FrX (some []) w) (xv (loadAt 9 t35)) fun t36 =>
 T (FrX none w) (xv (xbin .neq 9 (.tmp 31) (.tmp 36) t31 t36)) fun t37 =>
 k (Env.p e 37 t37) w) (by kernel_rfl) (by kernel_rfl) (by kernel_rfl) (by intros; kernel_rfl)
def c38_10_s:=@block38 c38_10 c38_11 1 (by kernel_rfl)
def c38_8_s:=@seq38 c38_8 c38_9 c38_10 (by kernel_rfl)
def c38_15_s:=@cond38 c38_15 (.exit 0) 24 .skip (by kernel_rfl) (by kernel_rfl)
def c38_14_s:=@reg38 c38_14 c38_15 4 (rO (cL c38_14)) (fun N M G k e w =>
 M (e 5) fun t20 =>
 N (xv (fieldAt 86 (e 2) 1)) w fun t21 w =>
 N (xv (loadAt 38 t21)) w fun t22 w =>
 N (builtin Builtin.len #[38] 3 ([false]).toArray ([t22]).toArray) w fun t23 w =>
 N (xv (xbin .lss 3 (.tmp 20) (.tmp 23) t20 t23)) w fun t24 w =>
 k (Env.p e 24 t24) w) (by kernel_rfl) (by intros; kernel_rfl)
def c38_7_s:=@seq38 c38_7 c38_8 c38_14 (by kernel_rfl)
def c38_6_s:=@loop38 c38_6 c38_7 (by kernel_rfl)
def c38_5_s:=@block38 c38_5 c38_6 0 (by kernel_rfl)
def c38_4_s:=@reg38 c38_4 c38_5 3 (rO (cL c38_4)) (fun N M G k e w =>
 M (.int .i64 0) fun t5 =>
 k (Env.p e 5 t5) w) (by kernel_rfl) (by intros; kernel_rfl)
def c38_2_s:=@seq38 c38_2 c38_3 c38_4 (by kernel_rfl)
def c38_18_s:=@reg38 c38_18 .ret 2 (rO (cL c38_18)) (fun N M G k e w =>
 M (.bool false) fun t4 =>
 k (Env.p e 4 t4) w) (by kernel_rfl) (by intros; kernel_rfl)
def c38_17_s:=@cond38 c38_17 .skip 19 c38_18 (by kernel_rfl) (by kernel_rfl)
def c38_16_s:=@reg38 c38_16 c38_17 1 (rO (cL c38_16)) (fun N M G k e w =>
 N (xv (fieldAt 86 (e 2) 0)) w fun t6 w =>
 N (xv (loadAt 2 t6)) w fun t7 w =>
 N (xv (fieldAt 86 (e 3) 0)) w fun t8 w =>
 N (xv (loadAt 2 t8)) w fun t9 w =>
 N (xv (xbin .neq 2 (.tmp 7) (.tmp 9) t7 t9)) w fun t10 w =>
 M t10 fun t11 =>
 G (isB t11 false) (fun K => N (xv (fieldAt 86 (e 2) 1)) w K) (fun t12 w =>
 G (isB t11 false) (fun K => N (xv (loadAt 38 t12)) w K) (fun t13 w =>
 G (isB t11 false) (fun K => N (builtin Builtin.len #[38] 3 ([false]).toArray ([t13]).toArray) w K) (fun t14 w =>
 G (isB t11 false) (fun K => N (xv (fieldAt 86 (e 3) 1)) w K) (fun t15 w =>
 G (isB t11 false) (fun K => N (xv (loadAt 38 t15)) w K) (fun t16 w =>
 G (isB t11 false) (fun K => N (builtin Builtin.len #[38] 3 ([false]).toArray ([t16]).toArray) w K) (fun t17 w =>
 G (isB t11 false) (fun K => N (xv (xbin .neq 3 (.tmp 14) (.tmp 17) t14 t17)) w K) (fun t18 w =>
 N (xpick t11 (.bool true) t18) w fun t19 w =>
 k (Env.p e 19 t19) w) w) w) w) w) w) w) w) (by kernel_rfl) (by intros; kernel_rfl)
def c38_1_s:=@seq38 c38_1 c38_2 c38_16 (by kernel_rfl)
def c38_s:=@reg38 c38 c38_1 0 (rO (cL c38)) (fun N M G k e w =>
 N (xv (Instr.box 86 (e 0))) w fun t2 w =>
 N (xv (Instr.box 86 (e 1))) w fun t3 w =>
 M (.bool false) fun t4 =>
 k (Env.p (Env.p (Env.p e 2 t2) 3 t3) 4 t4) w) (by kernel_rfl) (by intros; kernel_rfl)
theorem call38 {a0 a1 : Value} {w : World} {R : Value → World → Prop} (h : W3 Tryz.prog 38 V38 c38 (retQ Tryz.prog [.tmp 4] R) (argE [a0, a1]) w) : CallsN Tryz.prog 38 [a0, a1] w R :=
 callsN_of_W3 (c := c38) (rs := [.tmp 4]) V38 Tryz.ntmps38 (by rw [Tryz.results38]) mixed Tryz.func38 (by kernel_rfl) (by kernel_rfl) (by kernel_rfl) (by kernel_rfl) (by simp) h
def w3t_38:=w3t Tryz.prog 38 V38
def hk38 := aI @c38_3_s <| aI @c38_9_s <| aI @c38_13_s <| aI @c38_12_s <| aI @c38_11_s <| aI @c38_10_s <| aI @c38_8_s <| aI @c38_15_s <| aI @c38_14_s <| aI @c38_7_s <| aI @c38_6_s <| aI @c38_5_s <| aI @c38_4_s <| aI @c38_2_s <| aI @c38_18_s <| aI @c38_17_s <| aI @c38_16_s <| aI @c38_1_s <| aI @c38_s <| @w3t_38
-- K38: ↓hk38
/-! ### vouch/vouchref06.SameAll -/
def V13 : Nat → Bool := fun i => [0, 1, 4, 5, 10, 14, 26].elem i
def block13:=@s_block Tryz.prog 27 V13
def cond13:=@s_cond Tryz.prog 27 V13
def drw13:=@s_drw Tryz.prog 27 V13
def loop13:=@s_loop Tryz.prog 27 V13
def reg13:=@s_reg Tryz.prog 27 V13
def rend13:=@s_rend Tryz.prog 27 V13
def seq13:=@s_seq Tryz.prog 27 V13
noncomputable def c13:Code:=(Tryz.f13.body.getD .skip)
noncomputable def c13_1:=cR c13
noncomputable def c13_2:=cR c13_1
noncomputable def c13_3:=cR c13_2
noncomputable def c13_4:=cL c13_2
noncomputable def c13_5:=cR c13_4
noncomputable def c13_6:=cL c13_5
noncomputable def c13_7:=cL c13_6
noncomputable def c13_8:=cR c13_7
noncomputable def c13_9:=cR c13_8
noncomputable def c13_10:=cL c13_8
noncomputable def c13_11:=cL c13_10
noncomputable def b13_6:List Row:=[(0, 0, 1, 18, true), (0, 0, 32, 19, true), (3, 3, 393216, 20, true), (4, 7, 524288, 21, true), (0, 0, 2, 22, true), (0, 0, 32, 23, true), (48, 48, 6291456, 24, true), (64, 112, 8388608, 25, true), (136, 255, 17825792, 26, false), (256, 511, 33554432, 27, true)]
noncomputable def c13_12:=cR c13_11
noncomputable def c13_13:=cL c13_12
noncomputable def c13_14:=cL c13_7
noncomputable def c13_15:=cR c13_14
noncomputable def c13_16:=cL c13_1
noncomputable def c13_17:=cR c13_16
noncomputable def c13_18:=cL c13_17
def c13_3_s:=@reg13 c13_3 .ret 8 (rO (cL c13_3)) (fun N M G k e w =>
 M (.bool true) fun t4 =>
 k (Env.p e 4 t4) w) (by kernel_rfl) (by intros; kernel_rfl)
def c13_9_s:=@rend13 c13_9 5 (rO c13_9) (fun N M G k e w =>
 M (e 5) fun t15 =>
 N (xv (xbin .add 3 (.tmp 15) (.const (.int .i64 1)) t15 (.int .i64 1))) w fun t16 w =>
 M t16 fun t5 =>
 k (Env.p e 5 t5) w) (by kernel_rfl) (by intros; kernel_rfl)
def c13_13_s:=@reg13 c13_13 .ret 7 (rO (cL c13_13)) (fun N M G k e w =>
 M (.bool false) fun t4 =>
 k (Env.p e 4 t4) w) (by kernel_rfl) (by intros; kernel_rfl)
def c13_12_s:=@cond13 c13_12 .skip 26 c13_13 (by kernel_rfl) (by kernel_rfl)
def c13_11_s:=@drw13 c13_11 c13_12 6 (rO (cL c13_11)) b13_6 10 (fun N T M G H Y k e w =>
 M (e 0) fun t17 =>
 M (e 5) fun t18 =>
 T (FrX none w) (xv (indexAt 45 t17 t18)) fun t19 =>
 T (FrX (some []) w) (xv (loadAt 86 t19)) fun t20 =>
 M (e 1) fun t21 =>
 M (e 5) fun t22 =>
 T (FrX none w) (xv (indexAt 45 t21 t22)) fun t23 =>
 T (FrX (some []) w) (xv (loadAt 86 t23)) fun t24 =>
 N (xcall (.func (.func 38) #[] #[]) [t20, t24]) w fun t25 w8 =>
 T (FrX none w8) (xv (Op.unary .not t25)) fun t26 =>
 k (Env.p e 26 t26) w8) (by kernel_rfl) (by kernel_rfl) (by kernel_rfl) (by intros; kernel_rfl)
def c13_10_s:=@block13 c13_10 c13_11 1 (by kernel_rfl)
def c13_8_s:=@seq13 c13_8 c13_9 c13_10 (by kernel_rfl)
def c13_15_s:=@cond13 c13_15 (.exit 0) 14 .skip (by kernel_rfl) (by kernel_rfl)
def c13_14_s:=@reg13 c13_14 c13_15 4 (rO (cL c13_14)) (fun N M G k e w =>
 M (e 5) fun t11 =>
 M (e 0) fun t12 =>
 N (builtin Builtin.len #[45] 3 ([false]).toArray ([t12]).toArray) w fun t13 w =>
 N (xv (xbin .lss 3 (.tmp 11) (.tmp 13) t11 t13)) w fun t14 w =>
 k (Env.p e 14 t14) w) (by kernel_rfl) (by intros; kernel_rfl)
def c13_7_s:=@seq13 c13_7 c13_8 c13_14 (by kernel_rfl)
def c13_6_s:=@loop13 c13_6 c13_7 (by kernel_rfl)
def c13_5_s:=@block13 c13_5 c13_6 0 (by kernel_rfl)
def c13_4_s:=@reg13 c13_4 c13_5 3 (rO (cL c13_4)) (fun N M G k e w =>
 M (.int .i64 0) fun t5 =>
 k (Env.p e 5 t5) w) (by kernel_rfl) (by intros; kernel_rfl)
def c13_2_s:=@seq13 c13_2 c13_3 c13_4 (by kernel_rfl)
def c13_18_s:=@reg13 c13_18 .ret 2 (rO (cL c13_18)) (fun N M G k e w =>
 M (.bool false) fun t4 =>
 k (Env.p e 4 t4) w) (by kernel_rfl) (by intros; kernel_rfl)
def c13_17_s:=@cond13 c13_17 .skip 10 c13_18 (by kernel_rfl) (by kernel_rfl)
def c13_16_s:=@reg13 c13_16 c13_17 1 (rO (cL c13_16)) (fun N M G k e w =>
 M (e 0) fun t6 =>
 N (builtin Builtin.len #[45] 3 ([false]).toArray ([t6]).toArray) w fun t7 w =>
 M (e 1) fun t8 =>
 N (builtin Builtin.len #[45] 3 ([false]).toArray ([t8]).toArray) w fun t9 w =>
 N (xv (xbin .neq 3 (.tmp 7) (.tmp 9) t7 t9)) w fun t10 w =>
 k (Env.p e 10 t10) w) (by kernel_rfl) (by intros; kernel_rfl)
def c13_1_s:=@seq13 c13_1 c13_2 c13_16 (by kernel_rfl)
def c13_s:=@reg13 c13 c13_1 0 (rO (cL c13)) (fun N M G k e w =>
 M (.bool false) fun t4 =>
 k (Env.p e 4 t4) w) (by kernel_rfl) (by intros; kernel_rfl)
theorem call13 {a0 a1 : Value} {w : World} {R : Value → World → Prop} (h : W3 Tryz.prog 27 V13 c13 (retQ Tryz.prog [.tmp 4] R) (argE [a0, a1]) w) : CallsN Tryz.prog 13 [a0, a1] w R :=
 callsN_of_W3 (c := c13) (rs := [.tmp 4]) V13 Tryz.ntmps13 (by rw [Tryz.results13]) mixed Tryz.func13 (by kernel_rfl) (by kernel_rfl) (by kernel_rfl) (by kernel_rfl) (by simp) h
def w3t_13:=w3t Tryz.prog 27 V13
def hk13 := aI @c13_3_s <| aI @c13_9_s <| aI @c13_13_s <| aI @c13_12_s <| aI @c13_11_s <| aI @c13_10_s <| aI @c13_8_s <| aI @c13_15_s <| aI @c13_14_s <| aI @c13_7_s <| aI @c13_6_s <| aI @c13_5_s <| aI @c13_4_s <| aI @c13_2_s <| aI @c13_18_s <| aI @c13_17_s <| aI @c13_16_s <| aI @c13_1_s <| aI @c13_s <| @w3t_13
-- K13: ↓hk13
/-! ### vouch/vouchref06.Check -/
def V94 : Nat → Bool := fun i => [0, 2, 3, 4, 5, 13, 17, 33, 37, 42, 53].elem i
def block94:=@s_block Tryz.prog 54 V94
def cond94:=@s_cond Tryz.prog 54 V94
def drw94:=@s_drw Tryz.prog 54 V94
def loop94:=@s_loop Tryz.prog 54 V94
def reg94:=@s_reg Tryz.prog 54 V94
def rend94:=@s_rend Tryz.prog 54 V94
def seq94:=@s_seq Tryz.prog 54 V94
noncomputable def c94:Code:=(Tryz.f94.body.getD .skip)
noncomputable def c94_1:=cR c94
noncomputable def c94_2:=cR c94_1
noncomputable def c94_3:=cR c94_2
noncomputable def c94_4:=cR c94_3
noncomputable def c94_5:=cL c94_3
noncomputable def c94_6:=cR c94_5
noncomputable def c94_7:=cL c94_6
noncomputable def c94_8:=cL c94_7
noncomputable def c94_9:=cR c94_8
noncomputable def c94_10:=cR c94_9
noncomputable def c94_11:=cL c94_9
noncomputable def c94_12:=cL c94_11
noncomputable def c94_13:=cR c94_12
noncomputable def c94_14:=cL c94_13
noncomputable def c94_15:=cL c94_14
noncomputable def c94_16:=cR c94_15
noncomputable def c94_17:=cR c94_16
noncomputable def c94_18:=cL c94_16
noncomputable def c94_19:=cL c94_18
noncomputable def b94_14:List Row:=[(0, 0, 1, 46, true), (0, 0, 32, 47, true), (3, 3, 105553116266496, 48, true), (4, 7, 140737488355328, 49, true), (0, 0, 1, 50, true), (0, 0, 16, 51, true), (48, 48, 1688849860263936, 52, true), (64, 112, 2251799813685248, 53, true), (136, 255, 4785074604081152, 54, true)]
noncomputable def c94_20:=cR c94_19
noncomputable def c94_21:=cL c94_20
noncomputable def c94_22:=cL c94_15
noncomputable def c94_23:=cR c94_22
noncomputable def c94_24:=cL c94_8
noncomputable def c94_25:=cR c94_24
noncomputable def c94_26:=cL c94_2
noncomputable def c94_27:=cR c94_26
noncomputable def c94_28:=cL c94_27
noncomputable def c94_29:=cL c94_28
noncomputable def c94_30:=cR c94_29
noncomputable def c94_31:=cR c94_30
noncomputable def c94_32:=cL c94_30
noncomputable def c94_33:=cL c94_32
noncomputable def c94_34:=cR c94_33
noncomputable def c94_35:=cL c94_34
noncomputable def c94_36:=cL c94_29
noncomputable def c94_37:=cR c94_36
noncomputable def c94_38:=cL c94_1
noncomputable def c94_39:=cR c94_38
noncomputable def c94_40:=cL c94_39
def c94_4_s:=@reg94 c94_4 .ret 16 (rO (cL c94_4)) (fun N M G k e w =>
 M (.int .i64 0) fun t2 =>
 k (Env.p e 2 t2) w) (by kernel_rfl) (by intros; kernel_rfl)
def c94_10_s:=@rend94 c94_10 10 (rO c94_10) (fun N M G k e w =>
 M (e 4) fun t38 =>
 N (xv (xbin .add 3 (.tmp 38) (.const (.int .i64 1)) t38 (.int .i64 1))) w fun t39 w =>
 M t39 fun t4 =>
 k (Env.p e 4 t4) w) (by kernel_rfl) (by intros; kernel_rfl)
def c94_17_s:=@rend94 c94_17 13 (rO c94_17) (fun N M G k e w =>
 M (e 5) fun t43 =>
 N (xv (xbin .add 3 (.tmp 43) (.const (.int .i64 1)) t43 (.int .i64 1))) w fun t44 w =>
 M t44 fun t5 =>
 k (Env.p e 5 t5) w) (by kernel_rfl) (by intros; kernel_rfl)
def c94_21_s:=@reg94 c94_21 .ret 15 (rO (cL c94_21)) (fun N M G k e w =>
 M (.int .i64 22) fun t2 =>
 k (Env.p e 2 t2) w) (by kernel_rfl) (by intros; kernel_rfl)
def c94_20_s:=@cond94 c94_20 .skip 53 c94_21 (by kernel_rfl) (by kernel_rfl)
def c94_19_s:=@drw94 c94_19 c94_20 14 (rO (cL c94_19)) b94_14 9 (fun N T M G H Y k e w =>
 M (e 0) fun t45 =>
 M (e 5) fun t46 =>
 T (FrX none w) (xv (indexAt 38 t45 t46)) fun t47 =>
 T (FrX (some []) w) (xv (loadAt 9 t47)) fun t48 =>
 M (e 0) fun t49 =>
 M (e 4) fun t50 =>
 T (FrX none w) (xv (indexAt 38 t49 t50)) fun t51 =>
 T (FrX (some []) w) (xv (loadAt 9 t51)) fun t52 =>
 T (FrX none w) (xv (xbin .eql 9 (.tmp 48) (.tmp 52) t48 t52)) fun t53 =>
 k (Env.p e 53 t53) w) (by kernel_rfl) (by kernel_rfl) (by kernel_rfl) (by intros; kernel_rfl)
def c94_18_s:=@block94 c94_18 c94_19 5 (by kernel_rfl)
def c94_16_s:=@seq94 c94_16 c94_17 c94_18 (by kernel_rfl)
def c94_23_s:=@cond94 c94_23 (.exit 4) 42 .skip (by kernel_rfl) (by kernel_rfl)
def c94_22_s:=@reg94 c94_22 c94_23 12 (rO (cL c94_22)) (fun N M G k e w =>
 M (e 5) fun t40 =>
 M (e 4) fun t41 =>
 N (xv (xbin .lss 3 (.tmp 40) (.tmp 41) t40 t41)) w fun t42 w =>
 k (Env.p e 42 t42) w) (by kernel_rfl) (by intros; kernel_rfl)
def c94_15_s:=@seq94 c94_15 c94_16 c94_22 (by kernel_rfl)
def c94_14_s:=@loop94 c94_14 c94_15 (by kernel_rfl)
def c94_13_s:=@block94 c94_13 c94_14 4 (by kernel_rfl)
def c94_12_s:=@reg94 c94_12 c94_13 11 (rO (cL c94_12)) (fun N M G k e w =>
 M (.int .i64 0) fun t5 =>
 k (Env.p e 5 t5) w) (by kernel_rfl) (by intros; kernel_rfl)
def c94_11_s:=@block94 c94_11 c94_12 3 (by kernel_rfl)
def c94_9_s:=@seq94 c94_9 c94_10 c94_11 (by kernel_rfl)
def c94_25_s:=@cond94 c94_25 (.exit 2) 37 .skip (by kernel_rfl) (by kernel_rfl)
def c94_24_s:=@reg94 c94_24 c94_25 9 (rO (cL c94_24)) (fun N M G k e w =>
 M (e 4) fun t34 =>
 M (e 0) fun t35 =>
 N (builtin Builtin.len #[38] 3 ([false]).toArray ([t35]).toArray) w fun t36 w =>
 N (xv (xbin .lss 3 (.tmp 34) (.tmp 36) t34 t36)) w fun t37 w =>
 k (Env.p e 37 t37) w) (by kernel_rfl) (by intros; kernel_rfl)
def c94_8_s:=@seq94 c94_8 c94_9 c94_24 (by kernel_rfl)
def c94_7_s:=@loop94 c94_7 c94_8 (by kernel_rfl)
def c94_6_s:=@block94 c94_6 c94_7 2 (by kernel_rfl)
def c94_5_s:=@reg94 c94_5 c94_6 8 (rO (cL c94_5)) (fun N M G k e w =>
 M (.int .i64 0) fun t4 =>
 k (Env.p e 4 t4) w) (by kernel_rfl) (by intros; kernel_rfl)
def c94_3_s:=@seq94 c94_3 c94_4 c94_5 (by kernel_rfl)
def c94_31_s:=@rend94 c94_31 5 (rO c94_31) (fun N M G k e w =>
 M (e 3) fun t18 =>
 N (xv (xbin .add 3 (.tmp 18) (.const (.int .i64 1)) t18 (.int .i64 1))) w fun t19 w =>
 M t19 fun t3 =>
 k (Env.p e 3 t3) w) (by kernel_rfl) (by intros; kernel_rfl)
def c94_35_s:=@reg94 c94_35 .ret 7 (rO (cL c94_35)) (fun N M G k e w =>
 M (.int .i64 1) fun t2 =>
 k (Env.p e 2 t2) w) (by kernel_rfl) (by intros; kernel_rfl)
def c94_34_s:=@cond94 c94_34 .skip 33 c94_35 (by kernel_rfl) (by kernel_rfl)
def c94_33_s:=@reg94 c94_33 c94_34 6 (rO (cL c94_33)) (fun N M G k e w =>
 M (e 0) fun t20 =>
 M (e 3) fun t21 =>
 N (xv (indexAt 38 t20 t21)) w fun t22 w =>
 N (xv (loadAt 9 t22)) w fun t23 w =>
 N (builtin Builtin.len #[9] 3 ([false]).toArray ([t23]).toArray) w fun t24 w =>
 N (xv (xbin .lss 3 (.tmp 24) (.const (.int .i64 1)) t24 (.int .i64 1))) w fun t25 w =>
 M t25 fun t26 =>
 G (isB t26 false) (fun K => M (e 0) fun v => K v w) (fun t27 w =>
 G (isB t26 false) (fun K => M (e 3) fun v => K v w) (fun t28 w =>
 G (isB t26 false) (fun K => N (xv (indexAt 38 t27 t28)) w K) (fun t29 w =>
 G (isB t26 false) (fun K => N (xv (loadAt 9 t29)) w K) (fun t30 w =>
 G (isB t26 false) (fun K => N (builtin Builtin.len #[9] 3 ([false]).toArray ([t30]).toArray) w K) (fun t31 w =>
 G (isB t26 false) (fun K => N (xv (xbin .gtr 3 (.tmp 31) (.const (.int .i64 32)) t31 (.int .i64 32))) w K) (fun t32 w =>
 N (xpick t26 (.bool true) t32) w fun t33 w =>
 k (Env.p e 33 t33) w) w) w) w) w) w) w) (by kernel_rfl) (by intros; kernel_rfl)
def c94_32_s:=@block94 c94_32 c94_33 1 (by kernel_rfl)
def c94_30_s:=@seq94 c94_30 c94_31 c94_32 (by kernel_rfl)
def c94_37_s:=@cond94 c94_37 (.exit 0) 17 .skip (by kernel_rfl) (by kernel_rfl)
def c94_36_s:=@reg94 c94_36 c94_37 4 (rO (cL c94_36)) (fun N M G k e w =>
 M (e 3) fun t14 =>
 M (e 0) fun t15 =>
 N (builtin Builtin.len #[38] 3 ([false]).toArray ([t15]).toArray) w fun t16 w =>
 N (xv (xbin .lss 3 (.tmp 14) (.tmp 16) t14 t16)) w fun t17 w =>
 k (Env.p e 17 t17) w) (by kernel_rfl) (by intros; kernel_rfl)
def c94_29_s:=@seq94 c94_29 c94_30 c94_36 (by kernel_rfl)
def c94_28_s:=@loop94 c94_28 c94_29 (by kernel_rfl)
def c94_27_s:=@block94 c94_27 c94_28 0 (by kernel_rfl)
def c94_26_s:=@reg94 c94_26 c94_27 3 (rO (cL c94_26)) (fun N M G k e w =>
 M (.int .i64 0) fun t3 =>
 k (Env.p e 3 t3) w) (by kernel_rfl) (by intros; kernel_rfl)
def c94_2_s:=@seq94 c94_2 c94_3 c94_26 (by kernel_rfl)
def c94_40_s:=@reg94 c94_40 .ret 2 (rO (cL c94_40)) (fun N M G k e w =>
 M (.int .i64 1) fun t2 =>
 k (Env.p e 2 t2) w) (by kernel_rfl) (by intros; kernel_rfl)
def c94_39_s:=@cond94 c94_39 .skip 13 c94_40 (by kernel_rfl) (by kernel_rfl)
def c94_38_s:=@reg94 c94_38 c94_39 1 (rO (cL c94_38)) (fun N M G k e w =>
 M (e 0) fun t6 =>
 N (builtin Builtin.len #[38] 3 ([false]).toArray ([t6]).toArray) w fun t7 w =>
 N (xv (xbin .lss 3 (.tmp 7) (.const (.int .i64 1)) t7 (.int .i64 1))) w fun t8 w =>
 M t8 fun t9 =>
 G (isB t9 false) (fun K => M (e 0) fun v => K v w) (fun t10 w =>
 G (isB t9 false) (fun K => N (builtin Builtin.len #[38] 3 ([false]).toArray ([t10]).toArray) w K) (fun t11 w =>
 G (isB t9 false) (fun K => N (xv (xbin .gtr 3 (.tmp 11) (.const (.int .i64 8)) t11 (.int .i64 8))) w K) (fun t12 w =>
 N (xpick t9 (.bool true) t12) w fun t13 w =>
 k (Env.p e 13 t13) w) w) w) w) (by kernel_rfl) (by intros; kernel_rfl)
def c94_1_s:=@seq94 c94_1 c94_2 c94_38 (by kernel_rfl)
def c94_s:=@reg94 c94 c94_1 0 (rO (cL c94)) (fun N M G k e w =>
 M (.int .i64 0) fun t2 =>
 k (Env.p e 2 t2) w) (by kernel_rfl) (by intros; kernel_rfl)
theorem call94 {a0 : Value} {w : World} {R : Value → World → Prop} (h : W3 Tryz.prog 54 V94 c94 (retQ Tryz.prog [.tmp 2] R) (argE [a0]) w) : CallsN Tryz.prog 94 [a0] w R :=
 callsN_of_W3 (c := c94) (rs := [.tmp 2]) V94 Tryz.ntmps94 (by rw [Tryz.results94]) mixed Tryz.func94 (by kernel_rfl) (by kernel_rfl) (by kernel_rfl) (by kernel_rfl) (by simp) h
def w3t_94:=w3t Tryz.prog 54 V94
def hk94 := aI @c94_4_s <| aI @c94_10_s <| aI @c94_17_s <| aI @c94_21_s <| aI @c94_20_s <| aI @c94_19_s <| aI @c94_18_s <| aI @c94_16_s <| aI @c94_23_s <| aI @c94_22_s <| aI @c94_15_s <| aI @c94_14_s <| aI @c94_13_s <| aI @c94_12_s <| aI @c94_11_s <| aI @c94_9_s <| aI @c94_25_s <| aI @c94_24_s <| aI @c94_8_s <| aI @c94_7_s <| aI @c94_6_s <| aI @c94_5_s <| aI @c94_3_s <| aI @c94_31_s <| aI @c94_35_s <| aI @c94_34_s <| aI @c94_33_s <| aI @c94_32_s <| aI @c94_30_s <| aI @c94_37_s <| aI @c94_36_s <| aI @c94_29_s <| aI @c94_28_s <| aI @c94_27_s <| aI @c94_26_s <| aI @c94_2_s <| aI @c94_40_s <| aI @c94_39_s <| aI @c94_38_s <| aI @c94_1_s <| aI @c94_s <| @w3t_94
-- K94: ↓hk94
end
end Go.Proofs.YtgloomahpjpiiaaGreat
