/- The equations of the code of some functions, written by the printer gen3.py: each is checked by the kernel. -/
import Derived.Test.YtgloomahpjpiiaaGreatQ0
import Derived.Test.YtgloomahpjpiiaaGreatCI
set_option linter.unusedVariables false
set_option linter.unusedSimpArgs false
set_option maxRecDepth 100000
namespace Go.Proofs.YtgloomahpjpiiaaGreat
open Go.VW
open Go.Instr (loadAt storeAt fieldAt indexAt)
noncomputable section
set_option linter.defProp false
variable {N : NT} {T : T3T} {M : MT} {G : GT} {H : HT} {Y : YT} {k : KT} {Q : Exit → Env → World → Prop} {e el eg : Env} {w u0 u1 u2 u3 u4 u5 u6 u7 u8 u9 : World}
/-! ### vouch/store.goodKey -/
def V72 : Nat → Bool := fun i => [0, 2].elem i
def reg72:=@s_reg Tryz.prog 11 V72
noncomputable def c72:Code:=(Tryz.f72.body.getD .skip)
noncomputable def c72_1:=cR c72
def c72_1_s:=@reg72 c72_1 .ret 1 (rO (cL c72_1)) (fun N M G k e w =>
 M (e 0) fun t3 =>
 N (builtin Builtin.len #[9] 3 ([false]).toArray ([t3]).toArray) w fun t4 w =>
 N (xv (xbin .geq 3 (.tmp 4) (.const (.int .i64 1)) t4 (.int .i64 1))) w fun t5 w =>
 M t5 fun t6 =>
 G (isB t6 true) (fun K => M (e 0) fun v => K v w) (fun t7 w =>
 G (isB t6 true) (fun K => N (builtin Builtin.len #[9] 3 ([false]).toArray ([t7]).toArray) w K) (fun t8 w =>
 G (isB t6 true) (fun K => N (xv (xbin .leq 3 (.tmp 8) (.const (.int .i64 32)) t8 (.int .i64 32))) w K) (fun t9 w =>
 N (xpick t6 t9 (.bool false)) w fun t10 w =>
 M t10 fun t2 =>
 k (Env.p e 2 t2) w) w) w) w) (by kernel_rfl) (by intros; kernel_rfl)
def c72_s:=@reg72 c72 c72_1 0 (rO (cL c72)) (fun N M G k e w =>
 M (.bool false) fun t2 =>
 k (Env.p e 2 t2) w) (by kernel_rfl) (by intros; kernel_rfl)
theorem call72 {a0 : Value} {w : World} {R : Value → World → Prop} (h : W3 Tryz.prog 11 V72 c72 (retQ Tryz.prog [.tmp 2] R) (argE [a0]) w) : CallsN Tryz.prog 72 [a0] w R :=
 callsN_of_W3 (c := c72) (rs := [.tmp 2]) V72 Tryz.ntmps72 (by rw [Tryz.results72]) mixed Tryz.func72 (by kernel_rfl) (by kernel_rfl) (by kernel_rfl) (by kernel_rfl) (by simp) h
def w3t_72:=w3t Tryz.prog 11 V72
def hk72 := aI @c72_1_s <| aI @c72_s <| @w3t_72
-- K72: ↓hk72
/-! ### vouch/store.goodWrite -/
def V99 : Nat → Bool := fun i => [0, 1, 2].elem i
def reg99:=@s_reg Tryz.prog 24 V99
noncomputable def c99:Code:=(Tryz.f99.body.getD .skip)
noncomputable def c99_1:=cR c99
def c99_1_s:=@reg99 c99_1 .ret 1 (rO (cL c99_1)) (fun N M G k e w =>
 N (xv (fieldAt 66 (e 1) 0)) w fun t3 w =>
 N (xv (loadAt 9 t3)) w fun t4 w =>
 N (xcall (.func (.func 72) #[] #[]) [t4]) w fun t5 w =>
 M t5 fun t6 =>
 G (isB t6 true) (fun K => N (xv (fieldAt 66 (e 1) 1)) w K) (fun t7 w =>
 G (isB t6 true) (fun K => N (xv (fieldAt 35 t7 1)) w K) (fun t8 w =>
 G (isB t6 true) (fun K => N (xv (loadAt 9 t8)) w K) (fun t9 w =>
 G (isB t6 true) (fun K => N (builtin Builtin.len #[9] 3 ([false]).toArray ([t9]).toArray) w K) (fun t10 w =>
 G (isB t6 true) (fun K => N (xv (xbin .leq 3 (.tmp 10) (.const (.int .i64 256)) t10 (.int .i64 256))) w K) (fun t11 w =>
 N (xpick t6 t11 (.bool false)) w fun t12 w =>
 M t12 fun t13 =>
 G (isB t13 true) (fun K => N (xv (fieldAt 66 (e 1) 1)) w K) (fun t14 w =>
 G (isB t13 true) (fun K => N (xv (fieldAt 35 t14 0)) w K) (fun t15 w =>
 G (isB t13 true) (fun K => N (xv (loadAt 4 t15)) w K) (fun t16 w =>
 G (isB t13 true) (fun K => M t16 fun v => K v w) (fun t17 w =>
 G (isB t17 false) (fun K => N (xv (fieldAt 66 (e 1) 1)) w K) (fun t18 w =>
 G (isB t17 false) (fun K => N (xv (fieldAt 35 t18 1)) w K) (fun t19 w =>
 G (isB t17 false) (fun K => N (xv (loadAt 9 t19)) w K) (fun t20 w =>
 G (isB t17 false) (fun K => N (xv (xbin .eql 9 (.tmp 20) (.const (.string ⟨#[]⟩)) t20 (.string ⟨#[]⟩))) w K) (fun t21 w =>
 G (isB t13 true) (fun K => N (xpick t17 (.bool true) t21) w K) (fun t22 w =>
 N (xpick t13 t22 (.bool false)) w fun t23 w =>
 M t23 fun t2 =>
 k (Env.p e 2 t2) w) w) w) w) w) w) w) w) w) w) w) w) w) w) w) (by kernel_rfl) (by intros; kernel_rfl)
def c99_s:=@reg99 c99 c99_1 0 (rO (cL c99)) (fun N M G k e w =>
 N (xv (Instr.box 66 (e 0))) w fun t1 w =>
 M (.bool false) fun t2 =>
 k (Env.p (Env.p e 1 t1) 2 t2) w) (by kernel_rfl) (by intros; kernel_rfl)
theorem call99 {a0 : Value} {w : World} {R : Value → World → Prop} (h : W3 Tryz.prog 24 V99 c99 (retQ Tryz.prog [.tmp 2] R) (argE [a0]) w) : CallsN Tryz.prog 99 [a0] w R :=
 callsN_of_W3 (c := c99) (rs := [.tmp 2]) V99 Tryz.ntmps99 (by rw [Tryz.results99]) mixed Tryz.func99 (by kernel_rfl) (by kernel_rfl) (by kernel_rfl) (by kernel_rfl) (by simp) h
def w3t_99:=w3t Tryz.prog 24 V99
def hk99 := aI @c99_1_s <| aI @c99_s <| @w3t_99
-- K99: ↓hk99
/-! ### vouch/store.check -/
def V87 : Nat → Bool := fun i => [0, 2, 3, 4, 5, 6, 8, 16, 18, 19, 20, 21, 27, 44].elem i
def block87:=@s_block Tryz.prog 45 V87
def cond87:=@s_cond Tryz.prog 45 V87
def loop87:=@s_loop Tryz.prog 45 V87
def reg87:=@s_reg Tryz.prog 45 V87
def rend87:=@s_rend Tryz.prog 45 V87
def seq87:=@s_seq Tryz.prog 45 V87
noncomputable def c87:Code:=(Tryz.f87.body.getD .skip)
noncomputable def c87_1:=cR c87
noncomputable def c87_2:=cR c87_1
noncomputable def c87_3:=cR c87_2
noncomputable def c87_4:=cR c87_3
noncomputable def c87_5:=cR c87_4
noncomputable def c87_6:=cR c87_5
noncomputable def c87_7:=cL c87_5
noncomputable def c87_8:=cR c87_7
noncomputable def c87_9:=cL c87_8
noncomputable def c87_10:=cL c87_4
noncomputable def c87_11:=cR c87_10
noncomputable def c87_12:=cL c87_11
noncomputable def c87_13:=cL c87_12
noncomputable def c87_14:=cR c87_13
noncomputable def c87_15:=cR c87_14
noncomputable def c87_16:=cR c87_15
noncomputable def c87_17:=cL c87_15
noncomputable def c87_18:=cL c87_17
noncomputable def c87_19:=cR c87_18
noncomputable def c87_20:=cR c87_19
noncomputable def c87_21:=cR c87_20
noncomputable def c87_22:=cR c87_21
noncomputable def c87_23:=cL c87_19
noncomputable def c87_24:=cR c87_23
noncomputable def c87_25:=cL c87_24
noncomputable def c87_26:=cL c87_14
noncomputable def c87_27:=cL c87_1
noncomputable def c87_28:=cR c87_27
noncomputable def c87_29:=cL c87_28
def c87_6_s:=@reg87 c87_6 .ret 16 (rO (cL c87_6)) (fun N M G k e w =>
 M (.int .i64 0) fun t2 =>
 k (Env.p e 2 t2) w) (by kernel_rfl) (by intros; kernel_rfl)
def c87_9_s:=@reg87 c87_9 .ret 15 (rO (cL c87_9)) (fun N M G k e w =>
 M (.int .i64 22) fun t2 =>
 k (Env.p e 2 t2) w) (by kernel_rfl) (by intros; kernel_rfl)
def c87_8_s:=@cond87 c87_8 .skip 44 c87_9 (by kernel_rfl) (by kernel_rfl)
def c87_7_s:=@reg87 c87_7 c87_8 14 (rO (cL c87_7)) (fun N M G k e w =>
 M (e 4) fun t44 =>
 k (Env.p e 44 t44) w) (by kernel_rfl) (by intros; kernel_rfl)
def c87_5_s:=@seq87 c87_5 c87_6 c87_7 (by kernel_rfl)
def c87_16_s:=@rend87 c87_16 13 (rO c87_16) (fun N M G k e w =>
 N (xv (xbin .add 3 (.tmp 20) (.const (.int .i64 1)) (e 20) (.int .i64 1))) w fun t43 w =>
 M t43 fun t20 =>
 k (Env.p e 20 t20) w) (by kernel_rfl) (by intros; kernel_rfl)
def c87_22_s:=@rend87 c87_22 12 (rO c87_22) (fun N M G k e w =>
 M (e 3) fun t39 =>
 N (xv (fieldAt 66 (e 6) 0)) w fun t40 w =>
 N (xv (loadAt 9 t40)) w fun t41 w =>
 M (e 5) fun t42 =>
 N (xu (Instr.mapUpdate 151 t39 t41 t42)) w fun _ w =>
 k e w) (by kernel_rfl) (by intros; kernel_rfl)
def c87_21_s:=@reg87 c87_21 c87_22 11 (rO (cL c87_21)) (fun N M G k e w =>
 M (e 4) fun t35 =>
 M t35 fun t36 =>
 G (isB t36 false) (fun K => M (e 8) fun v => K v w) (fun t37 w =>
 N (xpick t36 (.bool true) t37) w fun t38 w =>
 M t38 fun t4 =>
 k (Env.p e 4 t4) w) w) (by kernel_rfl) (by intros; kernel_rfl)
def c87_20_s:=@reg87 c87_20 c87_21 10 (rO (cL c87_20)) (fun N M G k e w =>
 M (e 3) fun t29 =>
 N (xv (fieldAt 66 (e 6) 0)) w fun t30 w =>
 N (xv (loadAt 9 t30)) w fun t31 w =>
 N (xv (Instr.lookup 151 t29 t31 true)) w fun t32 w =>
 M t32 fun t28 =>
 N (xv (Instr.extract t28 0)) w fun t33 w =>
 N (xv (Instr.extract t28 1)) w fun t34 w =>
 M t33 fun t7 =>
 M t34 fun t8 =>
 k (Env.p e 8 t8) w) (by kernel_rfl) (by intros; kernel_rfl)
def c87_25_s:=@reg87 c87_25 .ret 9 (rO (cL c87_25)) (fun N M G k e w =>
 M (.int .i64 1) fun t2 =>
 k (Env.p e 2 t2) w) (by kernel_rfl) (by intros; kernel_rfl)
def c87_24_s:=@cond87 c87_24 .skip 27 c87_25 (by kernel_rfl) (by kernel_rfl)
def c87_23_s:=@reg87 c87_23 c87_24 8 (rO (cL c87_23)) (fun N M G k e w =>
 N (xv (loadAt 66 (e 6))) w fun t25 w =>
 N (xcall (.func (.func 99) #[] #[]) [t25]) w fun t26 w =>
 N (xv (Op.unary .not t26)) w fun t27 w =>
 k (Env.p e 27 t27) w) (by kernel_rfl) (by intros; kernel_rfl)
def c87_19_s:=@seq87 c87_19 c87_20 c87_23 (by kernel_rfl)
def c87_18_s:=@reg87 c87_18 c87_19 7 (rO (cL c87_18)) (fun N M G k e w =>
 M (e 20) fun t22 =>
 N (xv (indexAt 37 (e 18) (e 20))) w fun t23 w =>
 N (xv (loadAt 66 t23)) w fun t24 w =>
 N (xv (Instr.alloc 66 true (.tuple #[]))) w fun t6 w =>
 M t22 fun t5 =>
 N (xu (storeAt 66 t6 t24)) w fun _ w =>
 k (Env.p (Env.p e 6 t6) 5 t5) w) (by kernel_rfl) (by intros; kernel_rfl)
def c87_17_s:=@block87 c87_17 c87_18 1 (by kernel_rfl)
def c87_15_s:=@seq87 c87_15 c87_16 c87_17 (by kernel_rfl)
def c87_26_s:=@cond87 c87_26 (.exit 0) 21 .skip (by kernel_rfl) (by kernel_rfl)
def c87_14_s:=@seq87 c87_14 c87_15 c87_26 (by kernel_rfl)
def c87_13_s:=@reg87 c87_13 c87_14 6 (rO (cL c87_13)) (fun N M G k e w =>
 N (xv (xbin .lss 3 (.tmp 20) (.tmp 19) (e 20) (e 19))) w fun t21 w =>
 k (Env.p e 21 t21) w) (by kernel_rfl) (by intros; kernel_rfl)
def c87_12_s:=@loop87 c87_12 c87_13 (by kernel_rfl)
def c87_11_s:=@block87 c87_11 c87_12 0 (by kernel_rfl)
def c87_10_s:=@reg87 c87_10 c87_11 5 (rO (cL c87_10)) (fun N M G k e w =>
 M (e 0) fun t18 =>
 N (builtin Builtin.len #[37] 3 ([false]).toArray ([t18]).toArray) w fun t19 w =>
 M (.int .i64 0) fun t20 =>
 k (Env.p (Env.p (Env.p e 18 t18) 19 t19) 20 t20) w) (by kernel_rfl) (by intros; kernel_rfl)
def c87_4_s:=@seq87 c87_4 c87_5 c87_10 (by kernel_rfl)
def c87_3_s:=@reg87 c87_3 c87_4 4 (rO (cL c87_3)) (fun N M G k e w =>
 M (.bool false) fun t4 =>
 k (Env.p e 4 t4) w) (by kernel_rfl) (by intros; kernel_rfl)
def c87_2_s:=@reg87 c87_2 c87_3 3 (rO (cL c87_2)) (fun N M G k e w =>
 N (xv (Instr.makeMap 151 none)) w fun t17 w =>
 M t17 fun t3 =>
 k (Env.p e 3 t3) w) (by kernel_rfl) (by intros; kernel_rfl)
def c87_29_s:=@reg87 c87_29 .ret 2 (rO (cL c87_29)) (fun N M G k e w =>
 M (.int .i64 1) fun t2 =>
 k (Env.p e 2 t2) w) (by kernel_rfl) (by intros; kernel_rfl)
def c87_28_s:=@cond87 c87_28 .skip 16 c87_29 (by kernel_rfl) (by kernel_rfl)
def c87_27_s:=@reg87 c87_27 c87_28 1 (rO (cL c87_27)) (fun N M G k e w =>
 M (e 0) fun t9 =>
 N (builtin Builtin.len #[37] 3 ([false]).toArray ([t9]).toArray) w fun t10 w =>
 N (xv (xbin .eql 3 (.tmp 10) (.const (.int .i64 0)) t10 (.int .i64 0))) w fun t11 w =>
 M t11 fun t12 =>
 G (isB t12 false) (fun K => M (e 0) fun v => K v w) (fun t13 w =>
 G (isB t12 false) (fun K => N (builtin Builtin.len #[37] 3 ([false]).toArray ([t13]).toArray) w K) (fun t14 w =>
 G (isB t12 false) (fun K => N (xv (xbin .gtr 3 (.tmp 14) (.const (.int .i64 8)) t14 (.int .i64 8))) w K) (fun t15 w =>
 N (xpick t12 (.bool true) t15) w fun t16 w =>
 k (Env.p e 16 t16) w) w) w) w) (by kernel_rfl) (by intros; kernel_rfl)
def c87_1_s:=@seq87 c87_1 c87_2 c87_27 (by kernel_rfl)
def c87_s:=@reg87 c87 c87_1 0 (rO (cL c87)) (fun N M G k e w =>
 M (.int .i64 0) fun t2 =>
 k (Env.p e 2 t2) w) (by kernel_rfl) (by intros; kernel_rfl)
theorem call87 {a0 : Value} {w : World} {R : Value → World → Prop} (h : W3 Tryz.prog 45 V87 c87 (retQ Tryz.prog [.tmp 2] R) (argE [a0]) w) : CallsN Tryz.prog 87 [a0] w R :=
 callsN_of_W3 (c := c87) (rs := [.tmp 2]) V87 Tryz.ntmps87 (by rw [Tryz.results87]) mixed Tryz.func87 (by kernel_rfl) (by kernel_rfl) (by kernel_rfl) (by kernel_rfl) (by simp) h
def w3t_87:=w3t Tryz.prog 45 V87
def hk87 := aI @c87_6_s <| aI @c87_9_s <| aI @c87_8_s <| aI @c87_7_s <| aI @c87_5_s <| aI @c87_16_s <| aI @c87_22_s <| aI @c87_21_s <| aI @c87_20_s <| aI @c87_25_s <| aI @c87_24_s <| aI @c87_23_s <| aI @c87_19_s <| aI @c87_18_s <| aI @c87_17_s <| aI @c87_15_s <| aI @c87_26_s <| aI @c87_14_s <| aI @c87_13_s <| aI @c87_12_s <| aI @c87_11_s <| aI @c87_10_s <| aI @c87_4_s <| aI @c87_3_s <| aI @c87_2_s <| aI @c87_29_s <| aI @c87_28_s <| aI @c87_27_s <| aI @c87_1_s <| aI @c87_s <| @w3t_87
-- K87: ↓hk87
/-! ### vouch/store.New -/
def V26 : Nat → Bool := fun i => [0, 2].elem i
def reg26:=@s_reg Tryz.prog 9 V26
noncomputable def c26:Code:=(Tryz.f26.body.getD .skip)
noncomputable def c26_1:=cR c26
def c26_1_s:=@reg26 c26_1 .ret 1 (rO (cL c26_1)) (fun N M G k e w =>
 N (xv (Instr.makeMap 101 none)) w fun t3 w =>
 M (e 0) fun t4 =>
 N (builtin Builtin.max #[3, 3] 3 ([false, true]).toArray ([t4, (.int .i64 1)]).toArray) w fun t5 w =>
 N (builtin Builtin.min #[3, 3] 3 ([false, true]).toArray ([t5, (.int .i64 64)]).toArray) w fun t6 w =>
 N (xv (Instr.build 103 ([(0, t3), (1, t6)]).toArray)) w fun t7 w =>
 N (xv (Instr.box 103 t7)) w fun t8 w =>
 M t8 fun t2 =>
 k (Env.p e 2 t2) w) (by kernel_rfl) (by intros; kernel_rfl)
def c26_s:=@reg26 c26 c26_1 0 (rO (cL c26)) (fun N M G k e w =>
 M (.pointer none) fun t2 =>
 k (Env.p e 2 t2) w) (by kernel_rfl) (by intros; kernel_rfl)
theorem call26 {a0 : Value} {w : World} {R : Value → World → Prop} (h : W3 Tryz.prog 9 V26 c26 (retQ Tryz.prog [.tmp 2] R) (argE [a0]) w) : CallsN Tryz.prog 26 [a0] w R :=
 callsN_of_W3 (c := c26) (rs := [.tmp 2]) V26 Tryz.ntmps26 (by rw [Tryz.results26]) mixed Tryz.func26 (by kernel_rfl) (by kernel_rfl) (by kernel_rfl) (by kernel_rfl) (by simp) h
def w3t_26:=w3t Tryz.prog 9 V26
def hk26 := aI @c26_1_s <| aI @c26_s <| @w3t_26
-- K26: ↓hk26
/-! ### (*vouch/store.Store) . Last -/
def V37 : Nat → Bool := fun i => [0, 2, 4].elem i
def cond37:=@s_cond Tryz.prog 9 V37
def reg37:=@s_reg Tryz.prog 9 V37
def seq37:=@s_seq Tryz.prog 9 V37
noncomputable def c37:Code:=(Tryz.f37.body.getD .skip)
noncomputable def c37_1:=cR c37
noncomputable def c37_2:=cR c37_1
noncomputable def c37_3:=cL c37_1
noncomputable def c37_4:=cR c37_3
noncomputable def c37_5:=cL c37_4
def c37_2_s:=@reg37 c37_2 .ret 3 (rO (cL c37_2)) (fun N M G k e w =>
 M (e 0) fun t5 =>
 N (xnil t5) w fun t6 w =>
 N (xv (fieldAt 103 t6 2)) w fun t7 w =>
 N (xv (loadAt 2 t7)) w fun t8 w =>
 M t8 fun t2 =>
 k (Env.p e 2 t2) w) (by kernel_rfl) (by intros; kernel_rfl)
def c37_5_s:=@reg37 c37_5 .ret 2 (rO (cL c37_5)) (fun N M G k e w =>
 M (.int .i64 0) fun t2 =>
 k (Env.p e 2 t2) w) (by kernel_rfl) (by intros; kernel_rfl)
def c37_4_s:=@cond37 c37_4 .skip 4 c37_5 (by kernel_rfl) (by kernel_rfl)
def c37_3_s:=@reg37 c37_3 c37_4 1 (rO (cL c37_3)) (fun N M G k e w =>
 M (e 0) fun t3 =>
 N (xv (xbin .eql 74 (.tmp 3) (.const (.pointer none)) t3 (.pointer none))) w fun t4 w =>
 k (Env.p e 4 t4) w) (by kernel_rfl) (by intros; kernel_rfl)
def c37_1_s:=@seq37 c37_1 c37_2 c37_3 (by kernel_rfl)
def c37_s:=@reg37 c37 c37_1 0 (rO (cL c37)) (fun N M G k e w =>
 M (.int .i64 0) fun t2 =>
 k (Env.p e 2 t2) w) (by kernel_rfl) (by intros; kernel_rfl)
theorem call37 {a0 : Value} {w : World} {R : Value → World → Prop} (h : W3 Tryz.prog 9 V37 c37 (retQ Tryz.prog [.tmp 2] R) (argE [a0]) w) : CallsN Tryz.prog 37 [a0] w R :=
 callsN_of_W3 (c := c37) (rs := [.tmp 2]) V37 Tryz.ntmps37 (by rw [Tryz.results37]) mixed Tryz.func37 (by kernel_rfl) (by kernel_rfl) (by kernel_rfl) (by kernel_rfl) (by simp) h
def w3t_37:=w3t Tryz.prog 9 V37
def hk37 := aI @c37_2_s <| aI @c37_5_s <| aI @c37_4_s <| aI @c37_3_s <| aI @c37_1_s <| aI @c37_s <| @w3t_37
-- K37: ↓hk37
/-! ### (*vouch/store.Store) . Oldest -/
def V43 : Nat → Bool := fun i => [0, 1, 4, 16].elem i
def cond43:=@s_cond Tryz.prog 27 V43
def reg43:=@s_reg Tryz.prog 27 V43
def seq43:=@s_seq Tryz.prog 27 V43
noncomputable def c43:Code:=(Tryz.f43.body.getD .skip)
noncomputable def c43_1:=cR c43
noncomputable def c43_2:=cR c43_1
noncomputable def c43_3:=cL c43_1
noncomputable def c43_4:=cR c43_3
noncomputable def c43_5:=cL c43_4
def c43_2_s:=@reg43 c43_2 .ret 3 (rO (cL c43_2)) (fun N M G k e w =>
 M (e 0) fun t17 =>
 N (xnil t17) w fun t18 w =>
 N (xv (fieldAt 103 t18 0)) w fun t19 w =>
 N (xv (loadAt 101 t19)) w fun t20 w =>
 M (e 1) fun t21 =>
 N (xv (Instr.lookup 101 t20 t21 false)) w fun t22 w =>
 N (xv (Instr.field 128 t22 0)) w fun t23 w =>
 N (xv (indexAt 91 t23 (.int .i64 0))) w fun t24 w =>
 N (xv (fieldAt 94 t24 0)) w fun t25 w =>
 N (xv (loadAt 2 t25)) w fun t26 w =>
 M t26 fun t4 =>
 k (Env.p e 4 t4) w) (by kernel_rfl) (by intros; kernel_rfl)
def c43_5_s:=@reg43 c43_5 .ret 2 (rO (cL c43_5)) (fun N M G k e w =>
 M (.int .i64 0) fun t4 =>
 k (Env.p e 4 t4) w) (by kernel_rfl) (by intros; kernel_rfl)
def c43_4_s:=@cond43 c43_4 .skip 16 c43_5 (by kernel_rfl) (by kernel_rfl)
def c43_3_s:=@reg43 c43_3 c43_4 1 (rO (cL c43_3)) (fun N M G k e w =>
 M (e 0) fun t5 =>
 N (xv (xbin .eql 74 (.tmp 5) (.const (.pointer none)) t5 (.pointer none))) w fun t6 w =>
 M t6 fun t7 =>
 G (isB t7 false) (fun K => M (e 0) fun v => K v w) (fun t8 w =>
 G (isB t7 false) (fun K => N (xnil t8) w K) (fun t9 w =>
 G (isB t7 false) (fun K => N (xv (fieldAt 103 t9 0)) w K) (fun t10 w =>
 G (isB t7 false) (fun K => N (xv (loadAt 101 t10)) w K) (fun t11 w =>
 G (isB t7 false) (fun K => M (e 1) fun v => K v w) (fun t12 w =>
 G (isB t7 false) (fun K => N (xv (Instr.lookup 101 t11 t12 false)) w K) (fun t13 w =>
 G (isB t7 false) (fun K => N (xv (Instr.field 128 t13 1)) w K) (fun t14 w =>
 G (isB t7 false) (fun K => N (xv (Op.unary .not t14)) w K) (fun t15 w =>
 N (xpick t7 (.bool true) t15) w fun t16 w =>
 k (Env.p e 16 t16) w) w) w) w) w) w) w) w) w) (by kernel_rfl) (by intros; kernel_rfl)
def c43_1_s:=@seq43 c43_1 c43_2 c43_3 (by kernel_rfl)
def c43_s:=@reg43 c43 c43_1 0 (rO (cL c43)) (fun N M G k e w =>
 M (.int .i64 0) fun t4 =>
 k (Env.p e 4 t4) w) (by kernel_rfl) (by intros; kernel_rfl)
theorem call43 {a0 a1 : Value} {w : World} {R : Value → World → Prop} (h : W3 Tryz.prog 27 V43 c43 (retQ Tryz.prog [.tmp 4] R) (argE [a0, a1]) w) : CallsN Tryz.prog 43 [a0, a1] w R :=
 callsN_of_W3 (c := c43) (rs := [.tmp 4]) V43 Tryz.ntmps43 (by rw [Tryz.results43]) mixed Tryz.func43 (by kernel_rfl) (by kernel_rfl) (by kernel_rfl) (by kernel_rfl) (by simp) h
def w3t_43:=w3t Tryz.prog 27 V43
def hk43 := aI @c43_2_s <| aI @c43_5_s <| aI @c43_4_s <| aI @c43_3_s <| aI @c43_1_s <| aI @c43_s <| @w3t_43
-- K43: ↓hk43
/-! ### (*vouch/store.Store) . Read -/
def V40 : Nat → Bool := fun i => [0, 1, 2, 5, 6, 7, 8, 9, 10, 11, 15, 24, 32, 55, 63].elem i
def block40:=@s_block Tryz.prog 79 V40
def cond40:=@s_cond Tryz.prog 79 V40
def drw40:=@s_drw Tryz.prog 79 V40
def drwE40:=@s_drwE Tryz.prog 79 V40
def reg40:=@s_reg Tryz.prog 79 V40
def rend40:=@s_rend Tryz.prog 79 V40
def seq40:=@s_seq Tryz.prog 79 V40
noncomputable def c40:Code:=(Tryz.f40.body.getD .skip)
noncomputable def c40_1:=cR c40
noncomputable def c40_2:=cR c40_1
noncomputable def c40_3:=cR c40_2
noncomputable def c40_4:=cR c40_3
noncomputable def c40_5:=cR c40_4
noncomputable def c40_6:=cR c40_5
noncomputable def c40_7:=cR c40_6
noncomputable def c40_8:=cL c40_6
noncomputable def c40_9:=cR c40_8
noncomputable def c40_10:=cL c40_9
noncomputable def b40_15:List Row:=[(0, 0, 256, 65, true), (0, 0, 512, 66, true), (2, 2, 36893488147419103232, 67, true), (5, 7, 92233720368547758080, 68, true), (8, 15, 147573952589676412928, 69, true), (16, 31, 295147905179352825856, 70, true), (0, 0, 256, 71, true), (0, 0, 512, 72, true), (128, 128, 2361183241434822606848, 73, true), (320, 448, 5902958103587056517120, 74, true), (512, 960, 9444732965739290427392, 75, true), (1024, 1984, 18889465931478580854784, 76, true), (63, 63, 1024, 77, true), (4159, 4159, 76148159536273029070848, 0, false), (16383, 16383, 1024, 78, true), (32767, 32767, 188894659314785808547840, 0, false)]
noncomputable def c40_11:=cL c40_5
noncomputable def c40_12:=cR c40_11
noncomputable def c40_13:=cL c40_12
noncomputable def c40_14:=cL c40_1
noncomputable def c40_15:=cL c40_14
noncomputable def c40_16:=cR c40_15
noncomputable def c40_17:=cL c40_16
noncomputable def c40_18:=cR c40_16
noncomputable def c40_19:=cR c40_18
noncomputable def c40_20:=cL c40_19
noncomputable def c40_21:=cR c40_19
noncomputable def b40_5:List Row:=[(0, 0, 32, 26, true), (0, 0, 1, 27, true), (2, 2, 67108864, 28, true), (4, 6, 134217728, 29, true), (8, 14, 268435456, 30, true), (17, 31, 570425344, 31, true), (32, 63, 1073741824, 25, true)]
noncomputable def c40_22:=cR c40_21
noncomputable def c40_23:=cL c40_22
noncomputable def c40_24:=cR c40_22
noncomputable def b40_7:List Row:=[(0, 0, 32, 34, true), (0, 0, 1, 35, true), (0, 0, 2, 36, true), (6, 6, 51539607552, 37, false), (9, 15, 77309411328, 38, true), (24, 31, 137438953472, 33, true)]
noncomputable def c40_25:=cR c40_24
noncomputable def c40_26:=cL c40_25
def c40_7_s:=@reg40 c40_7 .ret 16 (rO (cL c40_7)) (fun N M G k e w =>
 N (xv (loadAt 57 (e 10))) w fun t78 w =>
 N (xu (storeAt 57 (e 6) t78)) w fun _ w =>
 M (.int .i64 0) fun t7 =>
 k (Env.p e 7 t7) w) (by kernel_rfl) (by intros; kernel_rfl)
def c40_10_s:=@drwE40 c40_10 15 (rO c40_10) b40_15 16 (fun N T M G H Y k e w =>
 T (FrX (some []) w) (xv (loadAt 91 (e 8))) fun t64 =>
 M (e 9) fun t65 =>
 T (FrX none w) (xv (xbin .sub 3 (.tmp 65) (.const (.int .i64 1)) t65 (.int .i64 1))) fun t66 =>
 T (FrX none w) (xv (indexAt 91 t64 t66)) fun t67 =>
 T (FrX none w) (xv (fieldAt 94 t67 0)) fun t68 =>
 T (FrX (some []) w) (xv (loadAt 2 t68)) fun t69 =>
 T (FrX (some []) w) (xv (loadAt 91 (e 8))) fun t70 =>
 M (e 9) fun t71 =>
 T (FrX none w) (xv (xbin .sub 3 (.tmp 71) (.const (.int .i64 1)) t71 (.int .i64 1))) fun t72 =>
 T (FrX none w) (xv (indexAt 91 t70 t72)) fun t73 =>
 T (FrX none w) (xv (fieldAt 94 t73 1)) fun t74 =>
 T (FrX (some []) w) (xv (loadAt 35 t74)) fun t75 =>
 T (FrX none w) (xv (fieldAt 57 (e 10) 2)) fun t76 =>
 N (xu (storeAt 2 t76 t69)) w fun _ w13 =>
 Y true (xv (loadAt 35 t74)) t75 w w13 ∧ (Y true (xv (loadAt 91 (e 8))) t70 w w13 ∧ (T (FrX none w13) (xv (fieldAt 57 (e 10) 1)) fun t77 =>
 N (xu (storeAt 35 t77 t75)) w13 fun _ w15 =>
 k e w15))) (by kernel_rfl) (by kernel_rfl) (by kernel_rfl) (by intros; kernel_rfl)
def c40_9_s:=@cond40 c40_9 .skip 63 c40_10 (by kernel_rfl) (by kernel_rfl)
def c40_8_s:=@reg40 c40_8 c40_9 14 (rO (cL c40_8)) (fun N M G k e w =>
 M (e 9) fun t62 =>
 N (xv (xbin .gtr 3 (.tmp 62) (.const (.int .i64 0)) t62 (.int .i64 0))) w fun t63 w =>
 k (Env.p e 63 t63) w) (by kernel_rfl) (by intros; kernel_rfl)
def c40_6_s:=@seq40 c40_6 c40_7 c40_8 (by kernel_rfl)
def c40_13_s:=@rend40 c40_13 13 (rO c40_13) (fun N M G k e w =>
 N (xv (loadAt 91 (e 8))) w fun t56 w =>
 M (e 9) fun t57 =>
 N (xv (indexAt 91 t56 t57)) w fun t58 w =>
 N (xv (fieldAt 94 t58 0)) w fun t59 w =>
 N (xv (loadAt 2 t59)) w fun t60 w =>
 N (xv (fieldAt 57 (e 10) 3)) w fun t61 w =>
 N (xu (storeAt 2 t61 t60)) w fun _ w =>
 k e w) (by kernel_rfl) (by intros; kernel_rfl)
def c40_12_s:=@cond40 c40_12 .skip 55 c40_13 (by kernel_rfl) (by kernel_rfl)
def c40_11_s:=@reg40 c40_11 c40_12 12 (rO (cL c40_11)) (fun N M G k e w =>
 M (e 9) fun t52 =>
 N (xv (loadAt 91 (e 8))) w fun t53 w =>
 N (builtin Builtin.len #[91] 3 ([false]).toArray ([t53]).toArray) w fun t54 w =>
 N (xv (xbin .lss 3 (.tmp 52) (.tmp 54) t52 t54)) w fun t55 w =>
 k (Env.p e 55 t55) w) (by kernel_rfl) (by intros; kernel_rfl)
def c40_5_s:=@seq40 c40_5 c40_6 c40_11 (by kernel_rfl)
def c40_4_s:=@reg40 c40_4 c40_5 11 (rO (cL c40_4)) (fun N M G k e w =>
 M (e 1) fun t50 =>
 N (xv (Instr.build 57 ([(0, t50), (3, (.int .i64 4611686018427387904))]).toArray)) w fun t51 w =>
 N (xv (Instr.alloc 57 true (.tuple #[]))) w fun t10 w =>
 N (xu (storeAt 57 t10 t51)) w fun _ w =>
 k (Env.p e 10 t10) w) (by kernel_rfl) (by intros; kernel_rfl)
def c40_3_s:=@reg40 c40_3 c40_4 10 (rO (cL c40_3)) (fun N M G k e w =>
 N (xv (loadAt 91 (e 8))) w fun t46 w =>
 N (builtin Builtin.len #[91] 3 ([false]).toArray ([t46]).toArray) w fun t47 w =>
 N (xv (Instr.makeFunc (Fn.func 74) ([]).toArray ([(e 8), (e 5)]).toArray)) w fun t48 w =>
 N (xcall (.func (.func 73) #[] #[]) [t47, t48]) w fun t49 w =>
 M t49 fun t9 =>
 k (Env.p e 9 t9) w) (by kernel_rfl) (by intros; kernel_rfl)
def c40_2_s:=@reg40 c40_2 c40_3 9 (rO (cL c40_2)) (fun N M G k e w =>
 M (e 0) fun t39 =>
 N (xnil t39) w fun t40 w =>
 N (xv (fieldAt 103 t40 0)) w fun t41 w =>
 N (xv (loadAt 101 t41)) w fun t42 w =>
 M (e 1) fun t43 =>
 N (xv (Instr.lookup 101 t42 t43 false)) w fun t44 w =>
 N (xv (Instr.field 128 t44 0)) w fun t45 w =>
 N (xv (Instr.alloc 91 true (.tuple #[]))) w fun t8 w =>
 N (xu (storeAt 91 t8 t45)) w fun _ w =>
 k (Env.p e 8 t8) w) (by kernel_rfl) (by intros; kernel_rfl)
def c40_17_s:=@reg40 c40_17 .ret 2 (rO (cL c40_17)) (fun N M G k e w =>
 N (xv (Instr.build 57 ([]).toArray)) w fun t14 w =>
 N (xu (storeAt 57 (e 6) t14)) w fun _ w =>
 M (.int .i64 3) fun t7 =>
 k (Env.p e 7 t7) w) (by kernel_rfl) (by intros; kernel_rfl)
def c40_20_s:=@reg40 c40_20 .ret 4 (rO (cL c40_20)) (fun N M G k e w =>
 N (xv (Instr.build 57 ([]).toArray)) w fun t23 w =>
 N (xu (storeAt 57 (e 6) t23)) w fun _ w =>
 M (.int .i64 1) fun t7 =>
 k (Env.p e 7 t7) w) (by kernel_rfl) (by intros; kernel_rfl)
def c40_23_s:=@reg40 c40_23 .ret 6 (rO (cL c40_23)) (fun N M G k e w =>
 N (xv (Instr.build 57 ([]).toArray)) w fun t31 w =>
 N (xu (storeAt 57 (e 6) t31)) w fun _ w =>
 M (.int .i64 21) fun t7 =>
 k (Env.p e 7 t7) w) (by kernel_rfl) (by intros; kernel_rfl)
def c40_26_s:=@reg40 c40_26 .ret 8 (rO (cL c40_26)) (fun N M G k e w =>
 N (xv (Instr.build 57 ([]).toArray)) w fun t38 w =>
 N (xu (storeAt 57 (e 6) t38)) w fun _ w =>
 M (.int .i64 20) fun t7 =>
 k (Env.p e 7 t7) w) (by kernel_rfl) (by intros; kernel_rfl)
def c40_25_s:=@cond40 c40_25 .skip 32 c40_26 (by kernel_rfl) (by kernel_rfl)
def c40_24_s:=@drw40 c40_24 c40_25 7 (rO (cL c40_24)) b40_7 6 (fun N T M G H Y k e w =>
 T (FrX (some []) w) (xv (loadAt 2 (e 5))) fun t33 =>
 M (e 0) fun t34 =>
 M (e 1) fun t35 =>
 N (xcall (.func (.func 43) #[] #[]) [t34, t35]) w fun t36 w3 =>
 Y true (xv (loadAt 2 (e 5))) t33 w w3 ∧ (T (FrX none w3) (xv (xbin .lss 2 (.tmp 33) (.tmp 36) t33 t36)) fun t37 =>
 M t37 fun t32 =>
 k (Env.p e 32 t32) w3)) (by kernel_rfl) (by kernel_rfl) (by kernel_rfl) (by intros; kernel_rfl)
def c40_22_s:=@cond40 c40_22 c40_24 24 c40_23 (by kernel_rfl) (by kernel_rfl)
def c40_21_s:=@drw40 c40_21 c40_22 5 (rO (cL c40_21)) b40_5 7 (fun N T M G H Y k e w =>
 T (FrX (some []) w) (xv (loadAt 2 (e 5))) fun t25 =>
 M (e 0) fun t26 =>
 T (FrX none w) (xnil t26) fun t27 =>
 T (FrX none w) (xv (fieldAt 103 t27 2)) fun t28 =>
 T (FrX (some []) w) (xv (loadAt 2 t28)) fun t29 =>
 T (FrX none w) (xv (xbin .gtr 2 (.tmp 25) (.tmp 29) t25 t29)) fun t30 =>
 M t30 fun t24 =>
 k (Env.p e 24 t24) w) (by kernel_rfl) (by kernel_rfl) (by kernel_rfl) (by intros; kernel_rfl)
def c40_19_s:=@cond40 c40_19 c40_21 15 c40_20 (by kernel_rfl) (by kernel_rfl)
def c40_18_s:=@reg40 c40_18 c40_19 3 (rO (cL c40_18)) (fun N M G k e w =>
 M (e 1) fun t16 =>
 N (xcall (.func (.func 72) #[] #[]) [t16]) w fun t17 w =>
 N (xv (Op.unary .not t17)) w fun t18 w =>
 M t18 fun t19 =>
 G (isB t19 false) (fun K => N (xv (loadAt 2 (e 5))) w K) (fun t20 w =>
 G (isB t19 false) (fun K => N (xv (xbin .lss 2 (.tmp 20) (.const (.int .i64 0)) t20 (.int .i64 0))) w K) (fun t21 w =>
 N (xpick t19 (.bool true) t21) w fun t22 w =>
 M t22 fun t15 =>
 k (Env.p e 15 t15) w) w) w) (by kernel_rfl) (by intros; kernel_rfl)
def c40_16_s:=@cond40 c40_16 c40_18 11 c40_17 (by kernel_rfl) (by kernel_rfl)
def c40_15_s:=@reg40 c40_15 c40_16 1 (rO (cL c40_15)) (fun N M G k e w =>
 M (e 0) fun t12 =>
 N (xv (xbin .eql 74 (.tmp 12) (.const (.pointer none)) t12 (.pointer none))) w fun t13 w =>
 M t13 fun t11 =>
 k (Env.p e 11 t11) w) (by kernel_rfl) (by intros; kernel_rfl)
def c40_14_s:=@block40 c40_14 c40_15 0 (by kernel_rfl)
def c40_1_s:=@seq40 c40_1 c40_2 c40_14 (by kernel_rfl)
def c40_s:=@reg40 c40 c40_1 0 (rO (cL c40)) (fun N M G k e w =>
 N (xv (Instr.box 2 (e 2))) w fun t5 w =>
 N (xv (Instr.alloc 57 true (.tuple #[]))) w fun t6 w =>
 M (.int .i64 0) fun t7 =>
 k (Env.p (Env.p (Env.p e 5 t5) 6 t6) 7 t7) w) (by kernel_rfl) (by intros; kernel_rfl)
theorem call40 {a0 a1 a2 : Value} {w : World} {R : Value → World → Prop} (h : W3 Tryz.prog 79 V40 c40 (retQ Tryz.prog [.cell 6 57, .tmp 7] R) (argE [a0, a1, a2]) w) : CallsN Tryz.prog 40 [a0, a1, a2] w R :=
 callsN_of_W3 (c := c40) (rs := [.cell 6 57, .tmp 7]) V40 Tryz.ntmps40 (by rw [Tryz.results40]) mixed Tryz.func40 (by kernel_rfl) (by kernel_rfl) (by kernel_rfl) (by kernel_rfl) (by simp) h
def w3t_40:=w3t Tryz.prog 79 V40
def hk40 := aI @c40_7_s <| aI @c40_10_s <| aI @c40_9_s <| aI @c40_8_s <| aI @c40_6_s <| aI @c40_13_s <| aI @c40_12_s <| aI @c40_11_s <| aI @c40_5_s <| aI @c40_4_s <| aI @c40_3_s <| aI @c40_2_s <| aI @c40_17_s <| aI @c40_20_s <| aI @c40_23_s <| aI @c40_26_s <| aI @c40_25_s <| aI @c40_24_s <| aI @c40_22_s <| aI @c40_21_s <| aI @c40_19_s <| aI @c40_18_s <| aI @c40_16_s <| aI @c40_15_s <| aI @c40_14_s <| aI @c40_1_s <| aI @c40_s <| @w3t_40
-- K40: ↓hk40
/-! ### (*vouch/store.Store) . Read$1 -/
def V74 : Nat → Bool := fun i => [0, 1, 2, 4].elem i
def drw74:=@s_drw Tryz.prog 12 V74
def reg74:=@s_reg Tryz.prog 12 V74
noncomputable def c74:Code:=(Tryz.f74.body.getD .skip)
noncomputable def c74_1:=cR c74
noncomputable def b74_1:List Row:=[(0, 0, 2, 6, true), (0, 0, 1, 7, true), (3, 3, 96, 8, true), (4, 7, 128, 9, true), (8, 15, 256, 10, true), (0, 0, 4, 11, true), (48, 63, 1536, 12, true), (127, 127, 2048, 5, true)]
def c74_1_s:=@drw74 c74_1 .ret 1 (rO (cL c74_1)) b74_1 8 (fun N T M G H Y k e w =>
 T (FrX (some []) w) (xv (loadAt 91 (e 1))) fun t5 =>
 M (e 0) fun t6 =>
 T (FrX none w) (xv (indexAt 91 t5 t6)) fun t7 =>
 T (FrX none w) (xv (fieldAt 94 t7 0)) fun t8 =>
 T (FrX (some []) w) (xv (loadAt 2 t8)) fun t9 =>
 T (FrX (some []) w) (xv (loadAt 2 (e 2))) fun t10 =>
 T (FrX none w) (xv (xbin .gtr 2 (.tmp 9) (.tmp 10) t9 t10)) fun t11 =>
 M t11 fun t4 =>
 k (Env.p e 4 t4) w) (by kernel_rfl) (by kernel_rfl) (by kernel_rfl) (by intros; kernel_rfl)
def c74_s:=@reg74 c74 c74_1 0 (rO (cL c74)) (fun N M G k e w =>
 M (.bool false) fun t4 =>
 k (Env.p e 4 t4) w) (by kernel_rfl) (by intros; kernel_rfl)
theorem call74 {a0 a1 a2 : Value} {w : World} {R : Value → World → Prop} (h : W3 Tryz.prog 12 V74 c74 (retQ Tryz.prog [.tmp 4] R) (argE [a0, a1, a2]) w) : CallsN Tryz.prog 74 [a0, a1, a2] w R :=
 callsN_of_W3 (c := c74) (rs := [.tmp 4]) V74 Tryz.ntmps74 (by rw [Tryz.results74]) mixed Tryz.func74 (by kernel_rfl) (by kernel_rfl) (by kernel_rfl) (by kernel_rfl) (by simp) h
def w3t_74:=w3t Tryz.prog 12 V74
def hk74 := aI @c74_1_s <| aI @c74_s <| @w3t_74
-- K74: ↓hk74
/-! ### sort.Search -/
def V73 : Nat → Bool := fun i => [0, 1, 4, 5, 6, 7, 11, 21].elem i
def block73:=@s_block Tryz.prog 26 V73
def cond73:=@s_cond Tryz.prog 26 V73
def loop73:=@s_loop Tryz.prog 26 V73
def reg73:=@s_reg Tryz.prog 26 V73
def rend73:=@s_rend Tryz.prog 26 V73
def seq73:=@s_seq Tryz.prog 26 V73
noncomputable def c73:Code:=(Tryz.f73.body.getD .skip)
noncomputable def c73_1:=cR c73
noncomputable def c73_2:=cR c73_1
noncomputable def c73_3:=cR c73_2
noncomputable def c73_4:=cL c73_2
noncomputable def c73_5:=cL c73_4
noncomputable def c73_6:=cL c73_5
noncomputable def c73_7:=cR c73_6
noncomputable def c73_8:=cL c73_7
noncomputable def c73_9:=cR c73_8
noncomputable def c73_10:=cR c73_9
noncomputable def c73_11:=cL c73_10
noncomputable def c73_12:=cR c73_10
noncomputable def c73_13:=cL c73_6
noncomputable def c73_14:=cR c73_13
def c73_3_s:=@reg73 c73_3 .ret 7 (rO (cL c73_3)) (fun N M G k e w =>
 M (e 5) fun t25 =>
 M t25 fun t4 =>
 k (Env.p e 4 t4) w) (by kernel_rfl) (by intros; kernel_rfl)
def c73_11_s:=@rend73 c73_11 5 (rO c73_11) (fun N M G k e w =>
 M (e 7) fun t22 =>
 N (xv (xbin .add 3 (.tmp 22) (.const (.int .i64 1)) t22 (.int .i64 1))) w fun t23 w =>
 M t23 fun t5 =>
 k (Env.p e 5 t5) w) (by kernel_rfl) (by intros; kernel_rfl)
def c73_12_s:=@rend73 c73_12 6 (rO c73_12) (fun N M G k e w =>
 M (e 7) fun t24 =>
 M t24 fun t6 =>
 k (Env.p e 6 t6) w) (by kernel_rfl) (by intros; kernel_rfl)
def c73_10_s:=@cond73 c73_10 c73_12 21 c73_11 (by kernel_rfl) (by kernel_rfl)
def c73_9_s:=@reg73 c73_9 c73_10 4 (rO (cL c73_9)) (fun N M G k e w =>
 M (e 1) fun t18 =>
 M (e 7) fun t19 =>
 N (xcall t18 [t19]) w fun t20 w =>
 N (xv (Op.unary .not t20)) w fun t21 w =>
 k (Env.p e 21 t21) w) (by kernel_rfl) (by intros; kernel_rfl)
def c73_8_s:=@reg73 c73_8 c73_9 3 (rO (cL c73_8)) (fun N M G k e w =>
 M (e 5) fun t12 =>
 M (e 6) fun t13 =>
 N (xv (xbin .add 3 (.tmp 12) (.tmp 13) t12 t13)) w fun t14 w =>
 N (xv (convert 3 148 t14)) w fun t15 w =>
 N (xv (xbin .shr 148 (.tmp 15) (.const (.int .u64 1)) t15 (.int .u64 1))) w fun t16 w =>
 N (xv (convert 148 3 t16)) w fun t17 w =>
 M t17 fun t7 =>
 k (Env.p e 7 t7) w) (by kernel_rfl) (by intros; kernel_rfl)
def c73_7_s:=@block73 c73_7 c73_8 1 (by kernel_rfl)
def c73_14_s:=@cond73 c73_14 (.exit 0) 11 .skip (by kernel_rfl) (by kernel_rfl)
def c73_13_s:=@reg73 c73_13 c73_14 2 (rO (cL c73_13)) (fun N M G k e w =>
 M (e 5) fun t9 =>
 M (e 6) fun t10 =>
 N (xv (xbin .lss 3 (.tmp 9) (.tmp 10) t9 t10)) w fun t11 w =>
 k (Env.p e 11 t11) w) (by kernel_rfl) (by intros; kernel_rfl)
def c73_6_s:=@seq73 c73_6 c73_7 c73_13 (by kernel_rfl)
def c73_5_s:=@loop73 c73_5 c73_6 (by kernel_rfl)
def c73_4_s:=@block73 c73_4 c73_5 0 (by kernel_rfl)
def c73_2_s:=@seq73 c73_2 c73_3 c73_4 (by kernel_rfl)
def c73_1_s:=@reg73 c73_1 c73_2 1 (rO (cL c73_1)) (fun N M G k e w =>
 M (e 0) fun t8 =>
 M (.int .i64 0) fun t5 =>
 M t8 fun t6 =>
 k (Env.p (Env.p e 5 t5) 6 t6) w) (by kernel_rfl) (by intros; kernel_rfl)
def c73_s:=@reg73 c73 c73_1 0 (rO (cL c73)) (fun N M G k e w =>
 M (.int .i64 0) fun t4 =>
 k (Env.p e 4 t4) w) (by kernel_rfl) (by intros; kernel_rfl)
theorem call73 {a0 a1 : Value} {w : World} {R : Value → World → Prop} (h : W3 Tryz.prog 26 V73 c73 (retQ Tryz.prog [.tmp 4] R) (argE [a0, a1]) w) : CallsN Tryz.prog 73 [a0, a1] w R :=
 callsN_of_W3 (c := c73) (rs := [.tmp 4]) V73 Tryz.ntmps73 (by rw [Tryz.results73]) mixed Tryz.func73 (by kernel_rfl) (by kernel_rfl) (by kernel_rfl) (by kernel_rfl) (by simp) h
def w3t_73:=w3t Tryz.prog 26 V73
def hk73 := aI @c73_3_s <| aI @c73_11_s <| aI @c73_12_s <| aI @c73_10_s <| aI @c73_9_s <| aI @c73_8_s <| aI @c73_7_s <| aI @c73_14_s <| aI @c73_13_s <| aI @c73_6_s <| aI @c73_5_s <| aI @c73_4_s <| aI @c73_2_s <| aI @c73_1_s <| aI @c73_s <| @w3t_73
-- K73: ↓hk73
/-! ### slices.Clone[[]vouch/api.Version,vouch/api.Version] -/
def V88 : Nat → Bool := fun i => [0, 2, 4].elem i
def cond88:=@s_cond Tryz.prog 8 V88
def reg88:=@s_reg Tryz.prog 8 V88
def seq88:=@s_seq Tryz.prog 8 V88
noncomputable def c88:Code:=(Tryz.f88.body.getD .skip)
noncomputable def c88_1:=cR c88
noncomputable def c88_2:=cR c88_1
noncomputable def c88_3:=cL c88_1
noncomputable def c88_4:=cR c88_3
noncomputable def c88_5:=cL c88_4
def c88_2_s:=@reg88 c88_2 .ret 3 (rO (cL c88_2)) (fun N M G k e w =>
 N (xv (Instr.buildSlice 91 0 ([]).toArray)) w fun t5 w =>
 M (e 0) fun t6 =>
 N (builtin Builtin.append #[91, 91] 91 ([false, false]).toArray ([t5, t6]).toArray) w fun t7 w =>
 M t7 fun t2 =>
 k (Env.p e 2 t2) w) (by kernel_rfl) (by intros; kernel_rfl)
def c88_5_s:=@reg88 c88_5 .ret 2 (rO (cL c88_5)) (fun N M G k e w =>
 M (.slice none 0 0) fun t2 =>
 k (Env.p e 2 t2) w) (by kernel_rfl) (by intros; kernel_rfl)
def c88_4_s:=@cond88 c88_4 .skip 4 c88_5 (by kernel_rfl) (by kernel_rfl)
def c88_3_s:=@reg88 c88_3 c88_4 1 (rO (cL c88_3)) (fun N M G k e w =>
 M (e 0) fun t3 =>
 N (xv (xbin .eql 91 (.tmp 3) (.const (.slice none 0 0)) t3 (.slice none 0 0))) w fun t4 w =>
 k (Env.p e 4 t4) w) (by kernel_rfl) (by intros; kernel_rfl)
def c88_1_s:=@seq88 c88_1 c88_2 c88_3 (by kernel_rfl)
def c88_s:=@reg88 c88 c88_1 0 (rO (cL c88)) (fun N M G k e w =>
 M (.slice none 0 0) fun t2 =>
 k (Env.p e 2 t2) w) (by kernel_rfl) (by intros; kernel_rfl)
theorem call88 {a0 : Value} {w : World} {R : Value → World → Prop} (h : W3 Tryz.prog 8 V88 c88 (retQ Tryz.prog [.tmp 2] R) (argE [a0]) w) : CallsN Tryz.prog 88 [a0] w R :=
 callsN_of_W3 (c := c88) (rs := [.tmp 2]) V88 Tryz.ntmps88 (by rw [Tryz.results88]) mixed Tryz.func88 (by kernel_rfl) (by kernel_rfl) (by kernel_rfl) (by kernel_rfl) (by simp) h
def w3t_88:=w3t Tryz.prog 8 V88
def hk88 := aI @c88_2_s <| aI @c88_5_s <| aI @c88_4_s <| aI @c88_3_s <| aI @c88_1_s <| aI @c88_s <| @w3t_88
-- K88: ↓hk88
/-! ### (*vouch/store.Store) . Clone -/
def V46 : Nat → Bool := fun i => [0, 2, 4].elem i
noncomputable def c46:Code:=(Tryz.f46.body.getD .skip)
theorem call46 {a0 : Value} {w : World} {R : Value → World → Prop} (h : W3 Tryz.prog 20 V46 c46 (retQ Tryz.prog [.tmp 2] R) (argE [a0]) w) : CallsN Tryz.prog 46 [a0] w R :=
 callsN_of_W3 (c := c46) (rs := [.tmp 2]) V46 Tryz.ntmps46 (by rw [Tryz.results46]) mixed Tryz.func46 (by kernel_rfl) (by kernel_rfl) (by kernel_rfl) (by kernel_rfl) (by simp) h
-- K46: ↓hk46
end
end Go.Proofs.YtgloomahpjpiiaaGreat
