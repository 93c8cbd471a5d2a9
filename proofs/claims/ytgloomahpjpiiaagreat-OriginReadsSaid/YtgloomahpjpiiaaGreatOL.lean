/- The equations of the code of some functions, written by the printer gen3.py: each is checked by the kernel. -/
import Derived.Test.YtgloomahpjpiiaaGreatQ0
import Derived.Test.YtgloomahpjpiiaaGreatCI
set_option linter.unusedVariables false
set_option linter.unusedSimpArgs false
set_option maxRecDepth 100000
namespace Go.Proofs.YtgloomahpjpiiaaGreat
open Go.VW
open Go.Instr (loadAt storeAt fieldAt indexAt)
noncomputable section
set_option linter.defProp false
variable {N : NT} {T : T3T} {M : MT} {G : GT} {H : HT} {Y : YT} {k : KT} {Q : Exit → Env → World → Prop} {e el eg : Env} {w u0 u1 u2 u3 u4 u5 u6 u7 u8 u9 : World}
/-! ### vouch/vouchlaw15.fixed -/
def V6 : Nat → Bool := fun i => [0, 1, 2, 3, 4, 8].elem i
def cond6:=@s_cond Tryz.prog 71 V6
def reg6:=@s_reg Tryz.prog 71 V6
def seq6:=@s_seq Tryz.prog 71 V6
noncomputable def c6:Code:=(Tryz.f6.body.getD .skip)
noncomputable def c6_1:=cR c6
noncomputable def c6_2:=cR c6_1
noncomputable def c6_3:=cR c6_2
noncomputable def c6_4:=cR c6_3
noncomputable def c6_5:=cR c6_4
noncomputable def c6_6:=cR c6_5
noncomputable def c6_7:=cL c6_2
noncomputable def c6_8:=cR c6_7
noncomputable def c6_9:=cL c6_8
def c6_6_s:=@reg6 c6_6 .ret 7 (rO (cL c6_6)) (fun N M G k e w =>
 M (e 2) fun t23 =>
 N (builtin Builtin.len #[24] 3 ([false]).toArray ([t23]).toArray) w fun t24 w =>
 N (xv (xbin .eql 3 (.tmp 24) (.const (.int .i64 3)) t24 (.int .i64 3))) w fun t25 w =>
 M t25 fun t26 =>
 G (isB t26 true) (fun K => M (e 2) fun v => K v w) (fun t27 w =>
 G (isB t26 true) (fun K => N (xv (indexAt 24 t27 (.int .i64 0))) w K) (fun t28 w =>
 G (isB t26 true) (fun K => N (xv (fieldAt 40 t28 11)) w K) (fun t29 w =>
 G (isB t26 true) (fun K => N (xv (loadAt 2 t29)) w K) (fun t30 w =>
 G (isB t26 true) (fun K => N (xv (xbin .eql 2 (.tmp 30) (.const (.int .i64 1)) t30 (.int .i64 1))) w K) (fun t31 w =>
 N (xpick t26 t31 (.bool false)) w fun t32 w =>
 M t32 fun t33 =>
 G (isB t33 true) (fun K => M (e 2) fun v => K v w) (fun t34 w =>
 G (isB t33 true) (fun K => N (xv (indexAt 24 t34 (.int .i64 2))) w K) (fun t35 w =>
 G (isB t33 true) (fun K => N (xv (fieldAt 40 t35 1)) w K) (fun t36 w =>
 G (isB t33 true) (fun K => N (xv (loadAt 3 t36)) w K) (fun t37 w =>
 G (isB t33 true) (fun K => N (xv (xbin .eql 3 (.tmp 37) (.const (.int .i64 1)) t37 (.int .i64 1))) w K) (fun t38 w =>
 N (xpick t33 t38 (.bool false)) w fun t39 w =>
 M t39 fun t40 =>
 G (isB t40 true) (fun K => M (e 3) fun v => K v w) (fun t41 w =>
 G (isB t40 true) (fun K => N (builtin Builtin.len #[24] 3 ([false]).toArray ([t41]).toArray) w K) (fun t42 w =>
 G (isB t40 true) (fun K => N (xv (xbin .eql 3 (.tmp 42) (.const (.int .i64 1)) t42 (.int .i64 1))) w K) (fun t43 w =>
 N (xpick t40 t43 (.bool false)) w fun t44 w =>
 M t44 fun t45 =>
 G (isB t45 true) (fun K => M (e 4) fun v => K v w) (fun t46 w =>
 G (isB t45 true) (fun K => N (builtin Builtin.len #[24] 3 ([false]).toArray ([t46]).toArray) w K) (fun t47 w =>
 G (isB t45 true) (fun K => N (xv (xbin .eql 3 (.tmp 47) (.const (.int .i64 2)) t47 (.int .i64 2))) w K) (fun t48 w =>
 N (xpick t45 t48 (.bool false)) w fun t49 w =>
 M t49 fun t50 =>
 G (isB t50 true) (fun K => M (e 4) fun v => K v w) (fun t51 w =>
 G (isB t50 true) (fun K => N (xv (indexAt 24 t51 (.int .i64 0))) w K) (fun t52 w =>
 G (isB t50 true) (fun K => N (xv (fieldAt 40 t52 7)) w K) (fun t53 w =>
 G (isB t50 true) (fun K => N (xv (loadAt 33 t53)) w K) (fun t54 w =>
 G (isB t50 true) (fun K => N (xv (Instr.build 33 ([(0, (.int .i64 1)), (1, (.int .i64 2))]).toArray)) w K) (fun t55 w =>
 G (isB t50 true) (fun K => N (xv (xbin .eql 33 (.tmp 54) (.tmp 55) t54 t55)) w K) (fun t56 w =>
 N (xpick t50 t56 (.bool false)) w fun t57 w =>
 M t57 fun t58 =>
 G (isB t58 true) (fun K => M (e 4) fun v => K v w) (fun t59 w =>
 G (isB t58 true) (fun K => N (xv (indexAt 24 t59 (.int .i64 1))) w K) (fun t60 w =>
 G (isB t58 true) (fun K => N (xv (fieldAt 40 t60 7)) w K) (fun t61 w =>
 G (isB t58 true) (fun K => N (xv (fieldAt 33 t61 1)) w K) (fun t62 w =>
 G (isB t58 true) (fun K => N (xv (loadAt 2 t62)) w K) (fun t63 w =>
 G (isB t58 true) (fun K => N (xv (xbin .eql 2 (.tmp 63) (.const (.int .i64 4611686018427387904)) t63 (.int .i64 4611686018427387904))) w K) (fun t64 w =>
 N (xpick t58 t64 (.bool false)) w fun t65 w =>
 M t65 fun t66 =>
 G (isB t66 true) (fun K => M (e 1) fun v => K v w) (fun t67 w =>
 G (isB t66 true) (fun K => N (xcall (.func (.func 12) #[] #[]) [t67]) w K) (fun t68 w =>
 G (isB t66 true) (fun K => N (xv (xbin .eql 2 (.tmp 68) (.const (.int .i64 1)) t68 (.int .i64 1))) w K) (fun t69 w =>
 N (xpick t66 t69 (.bool false)) w fun t70 w =>
 M t70 fun t0 =>
 k (Env.p e 0 t0) w) w) w) w) w) w) w) w) w) w) w) w) w) w) w) w) w) w) w) w) w) w) w) w) w) w) w) w) w) w) w) w) (by kernel_rfl) (by intros; kernel_rfl)
def c6_5_s:=@reg6 c6_5 c6_6 6 (rO (cL c6_5)) (fun N M G k e w =>
 M (e 1) fun t19 =>
 N (xv (Instr.build 33 ([(1, (.int .i64 4611686018427387904))]).toArray)) w fun t20 w =>
 N (xv (Instr.build 40 ([(0, (.int .i64 5)), (4, (.int .i64 3)), (5, (.int .i64 1)), (6, (.string ⟨#[97]⟩)), (7, t20)]).toArray)) w fun t21 w =>
 N (xcall (.func (.func 10) #[] #[]) [t19, t21]) w fun t22 w =>
 M t22 fun t4 =>
 k (Env.p e 4 t4) w) (by kernel_rfl) (by intros; kernel_rfl)
def c6_4_s:=@reg6 c6_4 c6_5 5 (rO (cL c6_4)) (fun N M G k e w =>
 M (e 1) fun t14 =>
 N (xcall (.func (.func 21) #[] #[]) [(.string ⟨#[97]⟩), (.string ⟨#[120]⟩)]) w fun t15 w =>
 N (xv (Instr.buildSlice 37 1 ([(0, t15)]).toArray)) w fun t16 w =>
 N (xcall (.func (.func 24) #[] #[]) [(.int .i64 0), (.int .i64 1), t16]) w fun t17 w =>
 N (xcall (.func (.func 10) #[] #[]) [t14, t17]) w fun t18 w =>
 M t18 fun t3 =>
 k (Env.p e 3 t3) w) (by kernel_rfl) (by intros; kernel_rfl)
def c6_3_s:=@reg6 c6_3 c6_4 4 (rO (cL c6_3)) (fun N M G k e w =>
 M (e 1) fun t9 =>
 N (xcall (.func (.func 21) #[] #[]) [(.string ⟨#[97]⟩), (.string ⟨#[120]⟩)]) w fun t10 w =>
 N (xv (Instr.buildSlice 37 1 ([(0, t10)]).toArray)) w fun t11 w =>
 N (xcall (.func (.func 24) #[] #[]) [(.int .i64 0), (.int .i64 1), t11]) w fun t12 w =>
 N (xcall (.func (.func 10) #[] #[]) [t9, t12]) w fun t13 w =>
 M t13 fun t2 =>
 k (Env.p e 2 t2) w) (by kernel_rfl) (by intros; kernel_rfl)
def c6_9_s:=@reg6 c6_9 .ret 3 (rO (cL c6_9)) (fun N M G k e w =>
 M (.bool false) fun t0 =>
 k (Env.p e 0 t0) w) (by kernel_rfl) (by intros; kernel_rfl)
def c6_8_s:=@cond6 c6_8 .skip 8 c6_9 (by kernel_rfl) (by kernel_rfl)
def c6_7_s:=@reg6 c6_7 c6_8 2 (rO (cL c6_7)) (fun N M G k e w =>
 M (e 1) fun t7 =>
 N (xv (xbin .eql 26 (.tmp 7) (.const (.pointer none)) t7 (.pointer none))) w fun t8 w =>
 k (Env.p e 8 t8) w) (by kernel_rfl) (by intros; kernel_rfl)
def c6_2_s:=@seq6 c6_2 c6_3 c6_7 (by kernel_rfl)
def c6_1_s:=@reg6 c6_1 c6_2 1 (rO (cL c6_1)) (fun N M G k e w =>
 N (xv (Instr.build 23 ([(0, (.int .i64 2)), (5, (.int .i64 2))]).toArray)) w fun t5 w =>
 N (xcall (.func (.func 7) #[] #[]) [t5]) w fun t6 w =>
 M t6 fun t1 =>
 k (Env.p e 1 t1) w) (by kernel_rfl) (by intros; kernel_rfl)
def c6_s:=@reg6 c6 c6_1 0 (rO (cL c6)) (fun N M G k e w =>
 M (.bool false) fun t0 =>
 k (Env.p e 0 t0) w) (by kernel_rfl) (by intros; kernel_rfl)
theorem call6 {w : World} {R : Value → World → Prop} (h : W3 Tryz.prog 71 V6 c6 (retQ Tryz.prog [.tmp 0] R) (argE []) w) : CallsN Tryz.prog 6 [] w R :=
 callsN_of_W3 (c := c6) (rs := [.tmp 0]) V6 Tryz.ntmps6 (by rw [Tryz.results6]) mixed Tryz.func6 (by kernel_rfl) (by kernel_rfl) (by kernel_rfl) (by kernel_rfl) (by simp) h
def w3t_6:=w3t Tryz.prog 71 V6
def hk6 := aI @c6_6_s <| aI @c6_5_s <| aI @c6_4_s <| aI @c6_3_s <| aI @c6_9_s <| aI @c6_8_s <| aI @c6_7_s <| aI @c6_2_s <| aI @c6_1_s <| aI @c6_s <| @w3t_6
-- K6: ↓hk6
/-! ### vouch/vouchlaw15.commit -/
def V24 : Nat → Bool := fun i => [0, 1, 2, 6].elem i
def reg24:=@s_reg Tryz.prog 11 V24
noncomputable def c24:Code:=(Tryz.f24.body.getD .skip)
noncomputable def c24_1:=cR c24
def c24_1_s:=@reg24 c24_1 .ret 1 (rO (cL c24_1)) (fun N M G k e w =>
 M (e 0) fun t7 =>
 M (e 1) fun t8 =>
 M (e 2) fun t9 =>
 N (xv (Instr.build 40 ([(0, (.int .i64 1)), (3, t7), (5, t8), (12, t9)]).toArray)) w fun t10 w =>
 N (xu (storeAt 40 (e 6) t10)) w fun _ w =>
 k e w) (by kernel_rfl) (by intros; kernel_rfl)
def c24_s:=@reg24 c24 c24_1 0 (rO (cL c24)) (fun N M G k e w =>
 N (xv (Instr.alloc 40 true (.tuple #[]))) w fun t6 w =>
 k (Env.p e 6 t6) w) (by kernel_rfl) (by intros; kernel_rfl)
theorem call24 {a0 a1 a2 : Value} {w : World} {R : Value → World → Prop} (h : W3 Tryz.prog 11 V24 c24 (retQ Tryz.prog [.cell 6 40] R) (argE [a0, a1, a2]) w) : CallsN Tryz.prog 24 [a0, a1, a2] w R :=
 callsN_of_W3 (c := c24) (rs := [.cell 6 40]) V24 Tryz.ntmps24 (by rw [Tryz.results24]) mixed Tryz.func24 (by kernel_rfl) (by kernel_rfl) (by kernel_rfl) (by kernel_rfl) (by simp) h
def w3t_24:=w3t Tryz.prog 11 V24
def hk24 := aI @c24_1_s <| aI @c24_s <| @w3t_24
-- K24: ↓hk24
/-! ### vouch/vouchlaw15.put -/
def V21 : Nat → Bool := fun i => [0, 1, 4].elem i
def reg21:=@s_reg Tryz.prog 9 V21
noncomputable def c21:Code:=(Tryz.f21.body.getD .skip)
noncomputable def c21_1:=cR c21
def c21_1_s:=@reg21 c21_1 .ret 1 (rO (cL c21_1)) (fun N M G k e w =>
 M (e 0) fun t5 =>
 M (e 1) fun t6 =>
 N (xv (Instr.build 35 ([(0, (.bool true)), (1, t6)]).toArray)) w fun t7 w =>
 N (xv (Instr.build 66 ([(0, t5), (1, t7)]).toArray)) w fun t8 w =>
 N (xu (storeAt 66 (e 4) t8)) w fun _ w =>
 k e w) (by kernel_rfl) (by intros; kernel_rfl)
def c21_s:=@reg21 c21 c21_1 0 (rO (cL c21)) (fun N M G k e w =>
 N (xv (Instr.alloc 66 true (.tuple #[]))) w fun t4 w =>
 k (Env.p e 4 t4) w) (by kernel_rfl) (by intros; kernel_rfl)
theorem call21 {a0 a1 : Value} {w : World} {R : Value → World → Prop} (h : W3 Tryz.prog 9 V21 c21 (retQ Tryz.prog [.cell 4 66] R) (argE [a0, a1]) w) : CallsN Tryz.prog 21 [a0, a1] w R :=
 callsN_of_W3 (c := c21) (rs := [.cell 4 66]) V21 Tryz.ntmps21 (by rw [Tryz.results21]) mixed Tryz.func21 (by kernel_rfl) (by kernel_rfl) (by kernel_rfl) (by kernel_rfl) (by simp) h
def w3t_21:=w3t Tryz.prog 9 V21
def hk21 := aI @c21_1_s <| aI @c21_s <| @w3t_21
-- K21: ↓hk21
end
end Go.Proofs.YtgloomahpjpiiaaGreat
