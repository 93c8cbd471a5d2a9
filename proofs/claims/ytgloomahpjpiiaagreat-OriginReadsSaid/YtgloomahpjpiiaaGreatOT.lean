/- The equations of the code of some functions, written by the printer gen3.py: each is checked by the kernel. -/
import Derived.Test.YtgloomahpjpiiaaGreatQ0
import Derived.Test.YtgloomahpjpiiaaGreatCI
set_option linter.unusedVariables false
set_option linter.unusedSimpArgs false
set_option maxRecDepth 100000
namespace Go.Proofs.YtgloomahpjpiiaaGreat
open Go.VW
open Go.Instr (loadAt storeAt fieldAt indexAt)
noncomputable section
set_option linter.defProp false
variable {N : NT} {T : T3T} {M : MT} {G : GT} {H : HT} {Y : YT} {k : KT} {Q : Exit → Env → World → Prop} {e el eg : Env} {w u0 u1 u2 u3 u4 u5 u6 u7 u8 u9 : World}
/-! ### vouch/stream.New -/
def V27 : Nat → Bool := fun i => [0].elem i
def reg27:=@s_reg Tryz.prog 3 V27
noncomputable def c27:Code:=(Tryz.f27.body.getD .skip)
noncomputable def c27_1:=cR c27
def c27_1_s:=@reg27 c27_1 .ret 1 (rO (cL c27_1)) (fun N M G k e w =>
 N (xv (Instr.build 106 ([]).toArray)) w fun t1 w =>
 N (xv (Instr.box 106 t1)) w fun t2 w =>
 M t2 fun t0 =>
 k (Env.p e 0 t0) w) (by kernel_rfl) (by intros; kernel_rfl)
def c27_s:=@reg27 c27 c27_1 0 (rO (cL c27)) (fun N M G k e w =>
 M (.pointer none) fun t0 =>
 k (Env.p e 0 t0) w) (by kernel_rfl) (by intros; kernel_rfl)
theorem call27 {w : World} {R : Value → World → Prop} (h : W3 Tryz.prog 3 V27 c27 (retQ Tryz.prog [.tmp 0] R) (argE []) w) : CallsN Tryz.prog 27 [] w R :=
 callsN_of_W3 (c := c27) (rs := [.tmp 0]) V27 Tryz.ntmps27 (by rw [Tryz.results27]) mixed Tryz.func27 (by kernel_rfl) (by kernel_rfl) (by kernel_rfl) (by kernel_rfl) (by simp) h
def w3t_27:=w3t Tryz.prog 3 V27
def hk27 := aI @c27_1_s <| aI @c27_s <| @w3t_27
-- K27: ↓hk27
/-! ### (*vouch/stream.Log) . Last -/
def V70 : Nat → Bool := fun i => [0, 2, 4].elem i
def cond70:=@s_cond Tryz.prog 10 V70
def reg70:=@s_reg Tryz.prog 10 V70
def seq70:=@s_seq Tryz.prog 10 V70
noncomputable def c70:Code:=(Tryz.f70.body.getD .skip)
noncomputable def c70_1:=cR c70
noncomputable def c70_2:=cR c70_1
noncomputable def c70_3:=cL c70_1
noncomputable def c70_4:=cR c70_3
noncomputable def c70_5:=cL c70_4
def c70_2_s:=@reg70 c70_2 .ret 3 (rO (cL c70_2)) (fun N M G k e w =>
 M (e 0) fun t5 =>
 N (xnil t5) w fun t6 w =>
 N (xv (fieldAt 106 t6 0)) w fun t7 w =>
 N (xv (loadAt 104 t7)) w fun t8 w =>
 N (builtin Builtin.len #[104] 3 ([false]).toArray ([t8]).toArray) w fun t9 w =>
 M t9 fun t2 =>
 k (Env.p e 2 t2) w) (by kernel_rfl) (by intros; kernel_rfl)
def c70_5_s:=@reg70 c70_5 .ret 2 (rO (cL c70_5)) (fun N M G k e w =>
 M (.int .i64 0) fun t2 =>
 k (Env.p e 2 t2) w) (by kernel_rfl) (by intros; kernel_rfl)
def c70_4_s:=@cond70 c70_4 .skip 4 c70_5 (by kernel_rfl) (by kernel_rfl)
def c70_3_s:=@reg70 c70_3 c70_4 1 (rO (cL c70_3)) (fun N M G k e w =>
 M (e 0) fun t3 =>
 N (xv (xbin .eql 76 (.tmp 3) (.const (.pointer none)) t3 (.pointer none))) w fun t4 w =>
 k (Env.p e 4 t4) w) (by kernel_rfl) (by intros; kernel_rfl)
def c70_1_s:=@seq70 c70_1 c70_2 c70_3 (by kernel_rfl)
def c70_s:=@reg70 c70 c70_1 0 (rO (cL c70)) (fun N M G k e w =>
 M (.int .i64 0) fun t2 =>
 k (Env.p e 2 t2) w) (by kernel_rfl) (by intros; kernel_rfl)
theorem call70 {a0 : Value} {w : World} {R : Value → World → Prop} (h : W3 Tryz.prog 10 V70 c70 (retQ Tryz.prog [.tmp 2] R) (argE [a0]) w) : CallsN Tryz.prog 70 [a0] w R :=
 callsN_of_W3 (c := c70) (rs := [.tmp 2]) V70 Tryz.ntmps70 (by rw [Tryz.results70]) mixed Tryz.func70 (by kernel_rfl) (by kernel_rfl) (by kernel_rfl) (by kernel_rfl) (by simp) h
def w3t_70:=w3t Tryz.prog 10 V70
def hk70 := aI @c70_2_s <| aI @c70_5_s <| aI @c70_4_s <| aI @c70_3_s <| aI @c70_1_s <| aI @c70_s <| @w3t_70
-- K70: ↓hk70
/-! ### (*vouch/stream.Log) . From -/
def V39 : Nat → Bool := fun i => [0, 1, 2, 6, 7, 8, 21].elem i
def block39:=@s_block Tryz.prog 35 V39
def cond39:=@s_cond Tryz.prog 35 V39
def loop39:=@s_loop Tryz.prog 35 V39
def reg39:=@s_reg Tryz.prog 35 V39
def rend39:=@s_rend Tryz.prog 35 V39
def seq39:=@s_seq Tryz.prog 35 V39
noncomputable def c39:Code:=(Tryz.f39.body.getD .skip)
noncomputable def c39_1:=cR c39
noncomputable def c39_2:=cR c39_1
noncomputable def c39_3:=cR c39_2
noncomputable def c39_4:=cL c39_2
noncomputable def c39_5:=cR c39_4
noncomputable def c39_6:=cL c39_5
noncomputable def c39_7:=cL c39_6
noncomputable def c39_8:=cR c39_7
noncomputable def c39_9:=cR c39_8
noncomputable def c39_10:=cL c39_8
noncomputable def c39_11:=cL c39_10
noncomputable def c39_12:=cR c39_11
noncomputable def c39_13:=cL c39_7
noncomputable def c39_14:=cR c39_13
def c39_3_s:=@reg39 c39_3 .ret 7 (rO (cL c39_3)) (fun N M G k e w =>
 M (e 7) fun t34 =>
 M t34 fun t6 =>
 k (Env.p e 6 t6) w) (by kernel_rfl) (by intros; kernel_rfl)
def c39_9_s:=@rend39 c39_9 4 (rO c39_9) (fun N M G k e w =>
 M (e 1) fun t22 =>
 N (xv (xbin .add 2 (.tmp 22) (.const (.int .i64 1)) t22 (.int .i64 1))) w fun t23 w =>
 M t23 fun t1 =>
 k (Env.p e 1 t1) w) (by kernel_rfl) (by intros; kernel_rfl)
def c39_12_s:=@rend39 c39_12 6 (rO c39_12) (fun N M G k e w =>
 M (e 7) fun t30 =>
 N (xv (loadAt 86 (e 8))) w fun t31 w =>
 N (xv (Instr.buildSlice 45 1 ([(0, t31)]).toArray)) w fun t32 w =>
 N (builtin Builtin.append #[45, 45] 45 ([false, false]).toArray ([t30, t32]).toArray) w fun t33 w =>
 M t33 fun t7 =>
 k (Env.p e 7 t7) w) (by kernel_rfl) (by intros; kernel_rfl)
def c39_11_s:=@reg39 c39_11 c39_12 5 (rO (cL c39_11)) (fun N M G k e w =>
 M (e 0) fun t25 =>
 M (e 1) fun t26 =>
 N (xcall (.func (.func 71) #[] #[]) [t25, t26]) w fun t27 w =>
 M t27 fun t24 =>
 N (xv (Instr.extract t24 0)) w fun t28 w =>
 N (xv (Instr.extract t24 1)) w fun t29 w =>
 N (xv (Instr.alloc 86 true (.tuple #[]))) w fun t8 w =>
 N (xu (storeAt 86 t8 t28)) w fun _ w =>
 M t29 fun t9 =>
 k (Env.p e 8 t8) w) (by kernel_rfl) (by intros; kernel_rfl)
def c39_10_s:=@block39 c39_10 c39_11 1 (by kernel_rfl)
def c39_8_s:=@seq39 c39_8 c39_9 c39_10 (by kernel_rfl)
def c39_14_s:=@cond39 c39_14 (.exit 0) 21 .skip (by kernel_rfl) (by kernel_rfl)
def c39_13_s:=@reg39 c39_13 c39_14 3 (rO (cL c39_13)) (fun N M G k e w =>
 M (e 1) fun t12 =>
 M (e 0) fun t13 =>
 N (xcall (.func (.func 70) #[] #[]) [t13]) w fun t14 w =>
 N (xv (xbin .leq 2 (.tmp 12) (.tmp 14) t12 t14)) w fun t15 w =>
 M t15 fun t16 =>
 G (isB t16 true) (fun K => M (e 7) fun v => K v w) (fun t17 w =>
 G (isB t16 true) (fun K => N (builtin Builtin.len #[45] 3 ([false]).toArray ([t17]).toArray) w K) (fun t18 w =>
 G (isB t16 true) (fun K => M (e 2) fun v => K v w) (fun t19 w =>
 G (isB t16 true) (fun K => N (xv (xbin .lss 3 (.tmp 18) (.tmp 19) t18 t19)) w K) (fun t20 w =>
 N (xpick t16 t20 (.bool false)) w fun t21 w =>
 k (Env.p e 21 t21) w) w) w) w) w) (by kernel_rfl) (by intros; kernel_rfl)
def c39_7_s:=@seq39 c39_7 c39_8 c39_13 (by kernel_rfl)
def c39_6_s:=@loop39 c39_6 c39_7 (by kernel_rfl)
def c39_5_s:=@block39 c39_5 c39_6 0 (by kernel_rfl)
def c39_4_s:=@reg39 c39_4 c39_5 2 (rO (cL c39_4)) (fun N M G k e w =>
 M (e 1) fun t10 =>
 N (builtin Builtin.max #[2, 2] 2 ([false, true]).toArray ([t10, (.int .i64 1)]).toArray) w fun t11 w =>
 M t11 fun t1 =>
 k (Env.p e 1 t1) w) (by kernel_rfl) (by intros; kernel_rfl)
def c39_2_s:=@seq39 c39_2 c39_3 c39_4 (by kernel_rfl)
def c39_1_s:=@reg39 c39_1 c39_2 1 (rO (cL c39_1)) (fun N M G k e w =>
 M (.slice none 0 0) fun t7 =>
 k (Env.p e 7 t7) w) (by kernel_rfl) (by intros; kernel_rfl)
def c39_s:=@reg39 c39 c39_1 0 (rO (cL c39)) (fun N M G k e w =>
 M (.slice none 0 0) fun t6 =>
 k (Env.p e 6 t6) w) (by kernel_rfl) (by intros; kernel_rfl)
theorem call39 {a0 a1 a2 : Value} {w : World} {R : Value → World → Prop} (h : W3 Tryz.prog 35 V39 c39 (retQ Tryz.prog [.tmp 6] R) (argE [a0, a1, a2]) w) : CallsN Tryz.prog 39 [a0, a1, a2] w R :=
 callsN_of_W3 (c := c39) (rs := [.tmp 6]) V39 Tryz.ntmps39 (by rw [Tryz.results39]) mixed Tryz.func39 (by kernel_rfl) (by kernel_rfl) (by kernel_rfl) (by kernel_rfl) (by simp) h
def w3t_39:=w3t Tryz.prog 35 V39
def hk39 := aI @c39_3_s <| aI @c39_9_s <| aI @c39_12_s <| aI @c39_11_s <| aI @c39_10_s <| aI @c39_8_s <| aI @c39_14_s <| aI @c39_13_s <| aI @c39_7_s <| aI @c39_6_s <| aI @c39_5_s <| aI @c39_4_s <| aI @c39_2_s <| aI @c39_1_s <| aI @c39_s <| @w3t_39
-- K39: ↓hk39
/-! ### (*vouch/stream.Log) . Get -/
def V71 : Nat → Bool := fun i => [0, 1, 4, 5, 13].elem i
def cond71:=@s_cond Tryz.prog 26 V71
def reg71:=@s_reg Tryz.prog 26 V71
def seq71:=@s_seq Tryz.prog 26 V71
noncomputable def c71:Code:=(Tryz.f71.body.getD .skip)
noncomputable def c71_1:=cR c71
noncomputable def c71_2:=cR c71_1
noncomputable def c71_3:=cL c71_1
noncomputable def c71_4:=cR c71_3
noncomputable def c71_5:=cL c71_4
def c71_2_s:=@reg71 c71_2 .ret 3 (rO (cL c71_2)) (fun N M G k e w =>
 M (e 1) fun t15 =>
 M (e 0) fun t16 =>
 N (xnil t16) w fun t17 w =>
 N (xv (fieldAt 106 t17 0)) w fun t18 w =>
 N (xv (loadAt 104 t18)) w fun t19 w =>
 M (e 1) fun t20 =>
 N (xv (xbin .sub 2 (.tmp 20) (.const (.int .i64 1)) t20 (.int .i64 1))) w fun t21 w =>
 N (xv (indexAt 104 t19 t21)) w fun t22 w =>
 N (xv (loadAt 38 t22)) w fun t23 w =>
 N (xcall (.func (.func 90) #[] #[]) [t23]) w fun t24 w =>
 N (xv (Instr.build 86 ([(0, t15), (1, t24)]).toArray)) w fun t25 w =>
 N (xu (storeAt 86 (e 4) t25)) w fun _ w =>
 M (.int .i64 0) fun t5 =>
 k (Env.p e 5 t5) w) (by kernel_rfl) (by intros; kernel_rfl)
def c71_5_s:=@reg71 c71_5 .ret 2 (rO (cL c71_5)) (fun N M G k e w =>
 N (xv (Instr.build 86 ([]).toArray)) w fun t14 w =>
 N (xu (storeAt 86 (e 4) t14)) w fun _ w =>
 M (.int .i64 3) fun t5 =>
 k (Env.p e 5 t5) w) (by kernel_rfl) (by intros; kernel_rfl)
def c71_4_s:=@cond71 c71_4 .skip 13 c71_5 (by kernel_rfl) (by kernel_rfl)
def c71_3_s:=@reg71 c71_3 c71_4 1 (rO (cL c71_3)) (fun N M G k e w =>
 M (e 1) fun t6 =>
 N (xv (xbin .lss 2 (.tmp 6) (.const (.int .i64 1)) t6 (.int .i64 1))) w fun t7 w =>
 M t7 fun t8 =>
 G (isB t8 false) (fun K => M (e 1) fun v => K v w) (fun t9 w =>
 G (isB t8 false) (fun K => M (e 0) fun v => K v w) (fun t10 w =>
 G (isB t8 false) (fun K => N (xcall (.func (.func 70) #[] #[]) [t10]) w K) (fun t11 w =>
 G (isB t8 false) (fun K => N (xv (xbin .gtr 2 (.tmp 9) (.tmp 11) t9 t11)) w K) (fun t12 w =>
 N (xpick t8 (.bool true) t12) w fun t13 w =>
 k (Env.p e 13 t13) w) w) w) w) w) (by kernel_rfl) (by intros; kernel_rfl)
def c71_1_s:=@seq71 c71_1 c71_2 c71_3 (by kernel_rfl)
def c71_s:=@reg71 c71 c71_1 0 (rO (cL c71)) (fun N M G k e w =>
 N (xv (Instr.alloc 86 true (.tuple #[]))) w fun t4 w =>
 M (.int .i64 0) fun t5 =>
 k (Env.p (Env.p e 4 t4) 5 t5) w) (by kernel_rfl) (by intros; kernel_rfl)
theorem call71 {a0 a1 : Value} {w : World} {R : Value → World → Prop} (h : W3 Tryz.prog 26 V71 c71 (retQ Tryz.prog [.cell 4 86, .tmp 5] R) (argE [a0, a1]) w) : CallsN Tryz.prog 71 [a0, a1] w R :=
 callsN_of_W3 (c := c71) (rs := [.cell 4 86, .tmp 5]) V71 Tryz.ntmps71 (by rw [Tryz.results71]) mixed Tryz.func71 (by kernel_rfl) (by kernel_rfl) (by kernel_rfl) (by kernel_rfl) (by simp) h
def w3t_71:=w3t Tryz.prog 26 V71
def hk71 := aI @c71_2_s <| aI @c71_5_s <| aI @c71_4_s <| aI @c71_3_s <| aI @c71_1_s <| aI @c71_s <| @w3t_71
-- K71: ↓hk71
/-! ### (*vouch/stream.Log) . Clone -/
def V47 : Nat → Bool := fun i => [0, 2, 4].elem i
noncomputable def c47:Code:=(Tryz.f47.body.getD .skip)
theorem call47 {a0 : Value} {w : World} {R : Value → World → Prop} (h : W3 Tryz.prog 12 V47 c47 (retQ Tryz.prog [.tmp 2] R) (argE [a0]) w) : CallsN Tryz.prog 47 [a0] w R :=
 callsN_of_W3 (c := c47) (rs := [.tmp 2]) V47 Tryz.ntmps47 (by rw [Tryz.results47]) mixed Tryz.func47 (by kernel_rfl) (by kernel_rfl) (by kernel_rfl) (by kernel_rfl) (by simp) h
-- K47: ↓hk47
/-! ### vouch/stream.check -/
def V89 : Nat → Bool := fun i => [0, 2, 4, 5, 13, 14, 15, 16, 17, 26, 36].elem i
def block89:=@s_block Tryz.prog 37 V89
def cond89:=@s_cond Tryz.prog 37 V89
def loop89:=@s_loop Tryz.prog 37 V89
def reg89:=@s_reg Tryz.prog 37 V89
def rend89:=@s_rend Tryz.prog 37 V89
def seq89:=@s_seq Tryz.prog 37 V89
noncomputable def c89:Code:=(Tryz.f89.body.getD .skip)
noncomputable def c89_1:=cR c89
noncomputable def c89_2:=cR c89_1
noncomputable def c89_3:=cR c89_2
noncomputable def c89_4:=cR c89_3
noncomputable def c89_5:=cR c89_4
noncomputable def c89_6:=cL c89_4
noncomputable def c89_7:=cR c89_6
noncomputable def c89_8:=cL c89_7
noncomputable def c89_9:=cL c89_2
noncomputable def c89_10:=cR c89_9
noncomputable def c89_11:=cL c89_10
noncomputable def c89_12:=cL c89_11
noncomputable def c89_13:=cR c89_12
noncomputable def c89_14:=cR c89_13
noncomputable def c89_15:=cR c89_14
noncomputable def c89_16:=cL c89_14
noncomputable def c89_17:=cL c89_16
noncomputable def c89_18:=cR c89_17
noncomputable def c89_19:=cR c89_18
noncomputable def c89_20:=cL c89_19
noncomputable def c89_21:=cL c89_13
noncomputable def c89_22:=cL c89_1
noncomputable def c89_23:=cR c89_22
noncomputable def c89_24:=cL c89_23
def c89_5_s:=@reg89 c89_5 .ret 12 (rO (cL c89_5)) (fun N M G k e w =>
 M (.int .i64 0) fun t2 =>
 k (Env.p e 2 t2) w) (by kernel_rfl) (by intros; kernel_rfl)
def c89_8_s:=@reg89 c89_8 .ret 11 (rO (cL c89_8)) (fun N M G k e w =>
 M (.int .i64 22) fun t2 =>
 k (Env.p e 2 t2) w) (by kernel_rfl) (by intros; kernel_rfl)
def c89_7_s:=@cond89 c89_7 .skip 36 c89_8 (by kernel_rfl) (by kernel_rfl)
def c89_6_s:=@reg89 c89_6 c89_7 10 (rO (cL c89_6)) (fun N M G k e w =>
 M (e 5) fun t31 =>
 N (xcall (.func (.func 102) #[] #[]) [t31]) w fun t32 w =>
 N (builtin Builtin.len #[38] 3 ([false]).toArray ([t32]).toArray) w fun t33 w =>
 M (e 0) fun t34 =>
 N (builtin Builtin.len #[38] 3 ([false]).toArray ([t34]).toArray) w fun t35 w =>
 N (xv (xbin .lss 3 (.tmp 33) (.tmp 35) t33 t35)) w fun t36 w =>
 k (Env.p e 36 t36) w) (by kernel_rfl) (by intros; kernel_rfl)
def c89_4_s:=@seq89 c89_4 c89_5 c89_6 (by kernel_rfl)
def c89_3_s:=@reg89 c89_3 c89_4 9 (rO (cL c89_3)) (fun N M G k e w =>
 M (e 0) fun t28 =>
 N (xcall (.func (.func 101) #[] #[]) [t28]) w fun t29 w =>
 N (xcall (.func (.func 100) #[] #[]) [t29]) w fun t30 w =>
 M t30 fun t5 =>
 k (Env.p e 5 t5) w) (by kernel_rfl) (by intros; kernel_rfl)
def c89_15_s:=@rend89 c89_15 8 (rO c89_15) (fun N M G k e w =>
 N (xv (xbin .add 3 (.tmp 16) (.const (.int .i64 1)) (e 16) (.int .i64 1))) w fun t27 w =>
 M t27 fun t16 =>
 k (Env.p e 16 t16) w) (by kernel_rfl) (by intros; kernel_rfl)
def c89_20_s:=@reg89 c89_20 .ret 7 (rO (cL c89_20)) (fun N M G k e w =>
 M (.int .i64 1) fun t2 =>
 k (Env.p e 2 t2) w) (by kernel_rfl) (by intros; kernel_rfl)
def c89_19_s:=@cond89 c89_19 .skip 26 c89_20 (by kernel_rfl) (by kernel_rfl)
def c89_18_s:=@reg89 c89_18 c89_19 6 (rO (cL c89_18)) (fun N M G k e w =>
 M (e 4) fun t20 =>
 N (xv (xbin .eql 9 (.tmp 20) (.const (.string ⟨#[]⟩)) t20 (.string ⟨#[]⟩))) w fun t21 w =>
 M t21 fun t22 =>
 G (isB t22 false) (fun K => M (e 4) fun v => K v w) (fun t23 w =>
 G (isB t22 false) (fun K => N (builtin Builtin.len #[9] 3 ([false]).toArray ([t23]).toArray) w K) (fun t24 w =>
 G (isB t22 false) (fun K => N (xv (xbin .gtr 3 (.tmp 24) (.const (.int .i64 32)) t24 (.int .i64 32))) w K) (fun t25 w =>
 N (xpick t22 (.bool true) t25) w fun t26 w =>
 k (Env.p e 26 t26) w) w) w) w) (by kernel_rfl) (by intros; kernel_rfl)
def c89_17_s:=@reg89 c89_17 c89_18 5 (rO (cL c89_17)) (fun N M G k e w =>
 N (xv (indexAt 38 (e 14) (e 16))) w fun t18 w =>
 N (xv (loadAt 9 t18)) w fun t19 w =>
 M t19 fun t4 =>
 k (Env.p e 4 t4) w) (by kernel_rfl) (by intros; kernel_rfl)
def c89_16_s:=@block89 c89_16 c89_17 1 (by kernel_rfl)
def c89_14_s:=@seq89 c89_14 c89_15 c89_16 (by kernel_rfl)
def c89_21_s:=@cond89 c89_21 (.exit 0) 17 .skip (by kernel_rfl) (by kernel_rfl)
def c89_13_s:=@seq89 c89_13 c89_14 c89_21 (by kernel_rfl)
def c89_12_s:=@reg89 c89_12 c89_13 4 (rO (cL c89_12)) (fun N M G k e w =>
 N (xv (xbin .lss 3 (.tmp 16) (.tmp 15) (e 16) (e 15))) w fun t17 w =>
 k (Env.p e 17 t17) w) (by kernel_rfl) (by intros; kernel_rfl)
def c89_11_s:=@loop89 c89_11 c89_12 (by kernel_rfl)
def c89_10_s:=@block89 c89_10 c89_11 0 (by kernel_rfl)
def c89_9_s:=@reg89 c89_9 c89_10 3 (rO (cL c89_9)) (fun N M G k e w =>
 M (e 0) fun t14 =>
 N (builtin Builtin.len #[38] 3 ([false]).toArray ([t14]).toArray) w fun t15 w =>
 M (.int .i64 0) fun t16 =>
 k (Env.p (Env.p (Env.p e 14 t14) 15 t15) 16 t16) w) (by kernel_rfl) (by intros; kernel_rfl)
def c89_2_s:=@seq89 c89_2 c89_3 c89_9 (by kernel_rfl)
def c89_24_s:=@reg89 c89_24 .ret 2 (rO (cL c89_24)) (fun N M G k e w =>
 M (.int .i64 1) fun t2 =>
 k (Env.p e 2 t2) w) (by kernel_rfl) (by intros; kernel_rfl)
def c89_23_s:=@cond89 c89_23 .skip 13 c89_24 (by kernel_rfl) (by kernel_rfl)
def c89_22_s:=@reg89 c89_22 c89_23 1 (rO (cL c89_22)) (fun N M G k e w =>
 M (e 0) fun t6 =>
 N (builtin Builtin.len #[38] 3 ([false]).toArray ([t6]).toArray) w fun t7 w =>
 N (xv (xbin .eql 3 (.tmp 7) (.const (.int .i64 0)) t7 (.int .i64 0))) w fun t8 w =>
 M t8 fun t9 =>
 G (isB t9 false) (fun K => M (e 0) fun v => K v w) (fun t10 w =>
 G (isB t9 false) (fun K => N (builtin Builtin.len #[38] 3 ([false]).toArray ([t10]).toArray) w K) (fun t11 w =>
 G (isB t9 false) (fun K => N (xv (xbin .gtr 3 (.tmp 11) (.const (.int .i64 8)) t11 (.int .i64 8))) w K) (fun t12 w =>
 N (xpick t9 (.bool true) t12) w fun t13 w =>
 k (Env.p e 13 t13) w) w) w) w) (by kernel_rfl) (by intros; kernel_rfl)
def c89_1_s:=@seq89 c89_1 c89_2 c89_22 (by kernel_rfl)
def c89_s:=@reg89 c89 c89_1 0 (rO (cL c89)) (fun N M G k e w =>
 M (.int .i64 0) fun t2 =>
 k (Env.p e 2 t2) w) (by kernel_rfl) (by intros; kernel_rfl)
theorem call89 {a0 : Value} {w : World} {R : Value → World → Prop} (h : W3 Tryz.prog 37 V89 c89 (retQ Tryz.prog [.tmp 2] R) (argE [a0]) w) : CallsN Tryz.prog 89 [a0] w R :=
 callsN_of_W3 (c := c89) (rs := [.tmp 2]) V89 Tryz.ntmps89 (by rw [Tryz.results89]) mixed Tryz.func89 (by kernel_rfl) (by kernel_rfl) (by kernel_rfl) (by kernel_rfl) (by simp) h
def w3t_89:=w3t Tryz.prog 37 V89
def hk89 := aI @c89_5_s <| aI @c89_8_s <| aI @c89_7_s <| aI @c89_6_s <| aI @c89_4_s <| aI @c89_3_s <| aI @c89_15_s <| aI @c89_20_s <| aI @c89_19_s <| aI @c89_18_s <| aI @c89_17_s <| aI @c89_16_s <| aI @c89_14_s <| aI @c89_21_s <| aI @c89_13_s <| aI @c89_12_s <| aI @c89_11_s <| aI @c89_10_s <| aI @c89_9_s <| aI @c89_2_s <| aI @c89_24_s <| aI @c89_23_s <| aI @c89_22_s <| aI @c89_1_s <| aI @c89_s <| @w3t_89
-- K89: ↓hk89
/-! ### slices.Clone[[]string,string] -/
def V90 : Nat → Bool := fun i => [0, 2, 4].elem i
def cond90:=@s_cond Tryz.prog 8 V90
def reg90:=@s_reg Tryz.prog 8 V90
def seq90:=@s_seq Tryz.prog 8 V90
noncomputable def c90:Code:=(Tryz.f90.body.getD .skip)
noncomputable def c90_1:=cR c90
noncomputable def c90_2:=cR c90_1
noncomputable def c90_3:=cL c90_1
noncomputable def c90_4:=cR c90_3
noncomputable def c90_5:=cL c90_4
def c90_2_s:=@reg90 c90_2 .ret 3 (rO (cL c90_2)) (fun N M G k e w =>
 N (xv (Instr.buildSlice 38 0 ([]).toArray)) w fun t5 w =>
 M (e 0) fun t6 =>
 N (builtin Builtin.append #[38, 38] 38 ([false, false]).toArray ([t5, t6]).toArray) w fun t7 w =>
 M t7 fun t2 =>
 k (Env.p e 2 t2) w) (by kernel_rfl) (by intros; kernel_rfl)
def c90_5_s:=@reg90 c90_5 .ret 2 (rO (cL c90_5)) (fun N M G k e w =>
 M (.slice none 0 0) fun t2 =>
 k (Env.p e 2 t2) w) (by kernel_rfl) (by intros; kernel_rfl)
def c90_4_s:=@cond90 c90_4 .skip 4 c90_5 (by kernel_rfl) (by kernel_rfl)
def c90_3_s:=@reg90 c90_3 c90_4 1 (rO (cL c90_3)) (fun N M G k e w =>
 M (e 0) fun t3 =>
 N (xv (xbin .eql 38 (.tmp 3) (.const (.slice none 0 0)) t3 (.slice none 0 0))) w fun t4 w =>
 k (Env.p e 4 t4) w) (by kernel_rfl) (by intros; kernel_rfl)
def c90_1_s:=@seq90 c90_1 c90_2 c90_3 (by kernel_rfl)
def c90_s:=@reg90 c90 c90_1 0 (rO (cL c90)) (fun N M G k e w =>
 M (.slice none 0 0) fun t2 =>
 k (Env.p e 2 t2) w) (by kernel_rfl) (by intros; kernel_rfl)
theorem call90 {a0 : Value} {w : World} {R : Value → World → Prop} (h : W3 Tryz.prog 8 V90 c90 (retQ Tryz.prog [.tmp 2] R) (argE [a0]) w) : CallsN Tryz.prog 90 [a0] w R :=
 callsN_of_W3 (c := c90) (rs := [.tmp 2]) V90 Tryz.ntmps90 (by rw [Tryz.results90]) mixed Tryz.func90 (by kernel_rfl) (by kernel_rfl) (by kernel_rfl) (by kernel_rfl) (by simp) h
def w3t_90:=w3t Tryz.prog 8 V90
def hk90 := aI @c90_2_s <| aI @c90_5_s <| aI @c90_4_s <| aI @c90_3_s <| aI @c90_1_s <| aI @c90_s <| @w3t_90
-- K90: ↓hk90
/-! ### slices.Clone[[][]string,[]string] -/
def V76 : Nat → Bool := fun i => [0, 2, 4].elem i
noncomputable def c76:Code:=(Tryz.f76.body.getD .skip)
theorem call76 {a0 : Value} {w : World} {R : Value → World → Prop} (h : W3 Tryz.prog 8 V76 c76 (retQ Tryz.prog [.tmp 2] R) (argE [a0]) w) : CallsN Tryz.prog 76 [a0] w R :=
 callsN_of_W3 (c := c76) (rs := [.tmp 2]) V76 Tryz.ntmps76 (by rw [Tryz.results76]) mixed Tryz.func76 (by kernel_rfl) (by kernel_rfl) (by kernel_rfl) (by kernel_rfl) (by simp) h
-- K76: ↓hk76
/-! ### slices.Sorted[string] -/
def V100 : Nat → Bool := fun i => [0, 2, 3].elem i
def reg100:=@s_reg Tryz.prog 9 V100
noncomputable def c100:Code:=(Tryz.f100.body.getD .skip)
noncomputable def c100_1:=cR c100
noncomputable def c100_2:=cR c100_1
noncomputable def c100_3:=cR c100_2
def c100_3_s:=@reg100 c100_3 .ret 3 (rO (cL c100_3)) (fun N M G k e w =>
 M (e 3) fun t8 =>
 M t8 fun t2 =>
 k (Env.p e 2 t2) w) (by kernel_rfl) (by intros; kernel_rfl)
def c100_2_s:=@reg100 c100_2 c100_3 2 (rO (cL c100_2)) (fun N M G k e w =>
 M (e 3) fun t6 =>
 N (xcall (.func (.func 104) #[] #[]) [t6]) w fun t7 w =>
 k e w) (by kernel_rfl) (by intros; kernel_rfl)
def c100_1_s:=@reg100 c100_1 c100_2 1 (rO (cL c100_1)) (fun N M G k e w =>
 M (e 0) fun t4 =>
 N (xcall (.func (.func 103) #[] #[]) [t4]) w fun t5 w =>
 M t5 fun t3 =>
 k (Env.p e 3 t3) w) (by kernel_rfl) (by intros; kernel_rfl)
def c100_s:=@reg100 c100 c100_1 0 (rO (cL c100)) (fun N M G k e w =>
 M (.slice none 0 0) fun t2 =>
 k (Env.p e 2 t2) w) (by kernel_rfl) (by intros; kernel_rfl)
theorem call100 {a0 : Value} {w : World} {R : Value → World → Prop} (h : W3 Tryz.prog 9 V100 c100 (retQ Tryz.prog [.tmp 2] R) (argE [a0]) w) : CallsN Tryz.prog 100 [a0] w R :=
 callsN_of_W3 (c := c100) (rs := [.tmp 2]) V100 Tryz.ntmps100 (by rw [Tryz.results100]) mixed Tryz.func100 (by kernel_rfl) (by kernel_rfl) (by kernel_rfl) (by kernel_rfl) (by simp) h
def w3t_100:=w3t Tryz.prog 9 V100
def hk100 := aI @c100_3_s <| aI @c100_2_s <| aI @c100_1_s <| aI @c100_s <| @w3t_100
-- K100: ↓hk100
/-! ### slices.Values[[]string,string] -/
def V101 : Nat → Bool := fun i => [0, 1, 2].elem i
def reg101:=@s_reg Tryz.prog 4 V101
noncomputable def c101:Code:=(Tryz.f101.body.getD .skip)
noncomputable def c101_1:=cR c101
def c101_1_s:=@reg101 c101_1 .ret 1 (rO (cL c101_1)) (fun N M G k e w =>
 N (xv (Instr.makeFunc (Fn.func 105) ([]).toArray ([(e 1)]).toArray)) w fun t3 w =>
 M t3 fun t2 =>
 k (Env.p e 2 t2) w) (by kernel_rfl) (by intros; kernel_rfl)
def c101_s:=@reg101 c101 c101_1 0 (rO (cL c101)) (fun N M G k e w =>
 N (xv (Instr.box 38 (e 0))) w fun t1 w =>
 M Value.nilFunc fun t2 =>
 k (Env.p (Env.p e 1 t1) 2 t2) w) (by kernel_rfl) (by intros; kernel_rfl)
theorem call101 {a0 : Value} {w : World} {R : Value → World → Prop} (h : W3 Tryz.prog 4 V101 c101 (retQ Tryz.prog [.tmp 2] R) (argE [a0]) w) : CallsN Tryz.prog 101 [a0] w R :=
 callsN_of_W3 (c := c101) (rs := [.tmp 2]) V101 Tryz.ntmps101 (by rw [Tryz.results101]) mixed Tryz.func101 (by kernel_rfl) (by kernel_rfl) (by kernel_rfl) (by kernel_rfl) (by simp) h
def w3t_101:=w3t Tryz.prog 4 V101
def hk101 := aI @c101_1_s <| aI @c101_s <| @w3t_101
-- K101: ↓hk101
/-! ### slices.Collect[string] -/
def V103 : Nat → Bool := fun i => [0, 2].elem i
def reg103:=@s_reg Tryz.prog 5 V103
noncomputable def c103:Code:=(Tryz.f103.body.getD .skip)
noncomputable def c103_1:=cR c103
def c103_1_s:=@reg103 c103_1 .ret 1 (rO (cL c103_1)) (fun N M G k e w =>
 M (e 0) fun t3 =>
 N (xcall (.func (.func 106) #[] #[]) [(.slice none 0 0), t3]) w fun t4 w =>
 M t4 fun t2 =>
 k (Env.p e 2 t2) w) (by kernel_rfl) (by intros; kernel_rfl)
def c103_s:=@reg103 c103 c103_1 0 (rO (cL c103)) (fun N M G k e w =>
 M (.slice none 0 0) fun t2 =>
 k (Env.p e 2 t2) w) (by kernel_rfl) (by intros; kernel_rfl)
theorem call103 {a0 : Value} {w : World} {R : Value → World → Prop} (h : W3 Tryz.prog 5 V103 c103 (retQ Tryz.prog [.tmp 2] R) (argE [a0]) w) : CallsN Tryz.prog 103 [a0] w R :=
 callsN_of_W3 (c := c103) (rs := [.tmp 2]) V103 Tryz.ntmps103 (by rw [Tryz.results103]) mixed Tryz.func103 (by kernel_rfl) (by kernel_rfl) (by kernel_rfl) (by kernel_rfl) (by simp) h
def w3t_103:=w3t Tryz.prog 5 V103
def hk103 := aI @c103_1_s <| aI @c103_s <| @w3t_103
-- K103: ↓hk103
end
end Go.Proofs.YtgloomahpjpiiaaGreat
