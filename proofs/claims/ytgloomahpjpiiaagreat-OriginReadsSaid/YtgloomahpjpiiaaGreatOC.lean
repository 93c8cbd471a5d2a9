/- The equations of the code of some functions, written by the printer gen3.py: each is checked by the kernel. -/
import Derived.Test.YtgloomahpjpiiaaGreatQ0
import Derived.Test.YtgloomahpjpiiaaGreatCI
set_option linter.unusedVariables false
set_option linter.unusedSimpArgs false
set_option maxRecDepth 100000
namespace Go.Proofs.YtgloomahpjpiiaaGreat
open Go.VW
open Go.Instr (loadAt storeAt fieldAt indexAt)
noncomputable section
set_option linter.defProp false
variable {N : NT} {T : T3T} {M : MT} {G : GT} {H : HT} {Y : YT} {k : KT} {Q : Exit → Env → World → Prop} {e el eg : Env} {w u0 u1 u2 u3 u4 u5 u6 u7 u8 u9 : World}
/-! ### vouch/codec.Check -/
def V30 : Nat → Bool := fun i => [0, 1, 2, 3, 8].elem i
def block30:=@s_block Tryz.prog 22 V30
def cond30:=@s_cond Tryz.prog 22 V30
def reg30:=@s_reg Tryz.prog 22 V30
def seq30:=@s_seq Tryz.prog 22 V30
noncomputable def c30:Code:=(Tryz.f30.body.getD .skip)
noncomputable def c30_1:=cR c30
noncomputable def c30_2:=cR c30_1
noncomputable def c30_3:=cL c30_1
noncomputable def c30_4:=cL c30_3
noncomputable def c30_5:=cR c30_4
noncomputable def c30_6:=cL c30_5
noncomputable def c30_7:=cR c30_5
noncomputable def c30_8:=cR c30_7
noncomputable def c30_9:=cL c30_8
def c30_2_s:=@reg30 c30_2 .ret 5 (rO (cL c30_2)) (fun N M G k e w =>
 M (.int .i64 0) fun t2 =>
 k (Env.p e 2 t2) w) (by kernel_rfl) (by intros; kernel_rfl)
def c30_6_s:=@reg30 c30_6 .ret 2 (rO (cL c30_6)) (fun N M G k e w =>
 M (.int .i64 13) fun t2 =>
 k (Env.p e 2 t2) w) (by kernel_rfl) (by intros; kernel_rfl)
def c30_9_s:=@reg30 c30_9 .ret 4 (rO (cL c30_9)) (fun N M G k e w =>
 M (.int .i64 1) fun t2 =>
 k (Env.p e 2 t2) w) (by kernel_rfl) (by intros; kernel_rfl)
def c30_8_s:=@cond30 c30_8 .skip 8 c30_9 (by kernel_rfl) (by kernel_rfl)
def c30_7_s:=@reg30 c30_7 c30_8 3 (rO (cL c30_7)) (fun N M G k e w =>
 N (xv (loadAt 40 (e 1))) w fun t9 w =>
 N (xcall (.func (.func 52) #[] #[]) [t9]) w fun t10 w =>
 N (xv (Op.unary .not t10)) w fun t11 w =>
 M t11 fun t12 =>
 G (isB t12 false) (fun K => N (xv (loadAt 40 (e 1))) w K) (fun t13 w =>
 G (isB t12 false) (fun K => N (xcall (.func (.func 53) #[] #[]) [t13]) w K) (fun t14 w =>
 G (isB t12 false) (fun K => N (xv (Op.unary .not t14)) w K) (fun t15 w =>
 N (xpick t12 (.bool true) t15) w fun t16 w =>
 M t16 fun t17 =>
 G (isB t17 false) (fun K => N (xv (loadAt 40 (e 1))) w K) (fun t18 w =>
 G (isB t17 false) (fun K => N (xcall (.func (.func 54) #[] #[]) [t18]) w K) (fun t19 w =>
 G (isB t17 false) (fun K => N (xv (Op.unary .not t19)) w K) (fun t20 w =>
 N (xpick t17 (.bool true) t20) w fun t21 w =>
 M t21 fun t8 =>
 k (Env.p e 8 t8) w) w) w) w) w) w) w) (by kernel_rfl) (by intros; kernel_rfl)
def c30_5_s:=@cond30 c30_5 c30_7 3 c30_6 (by kernel_rfl) (by kernel_rfl)
def c30_4_s:=@reg30 c30_4 c30_5 1 (rO (cL c30_4)) (fun N M G k e w =>
 N (xv (fieldAt 40 (e 1) 0)) w fun t4 w =>
 N (xv (loadAt 3 t4)) w fun t5 w =>
 N (xcall (.func (.func 51) #[] #[]) [t5]) w fun t6 w =>
 N (xv (Op.unary .not t6)) w fun t7 w =>
 M t7 fun t3 =>
 k (Env.p e 3 t3) w) (by kernel_rfl) (by intros; kernel_rfl)
def c30_3_s:=@block30 c30_3 c30_4 0 (by kernel_rfl)
def c30_1_s:=@seq30 c30_1 c30_2 c30_3 (by kernel_rfl)
def c30_s:=@reg30 c30 c30_1 0 (rO (cL c30)) (fun N M G k e w =>
 N (xv (Instr.box 40 (e 0))) w fun t1 w =>
 M (.int .i64 0) fun t2 =>
 k (Env.p (Env.p e 1 t1) 2 t2) w) (by kernel_rfl) (by intros; kernel_rfl)
theorem call30 {a0 : Value} {w : World} {R : Value → World → Prop} (h : W3 Tryz.prog 22 V30 c30 (retQ Tryz.prog [.tmp 2] R) (argE [a0]) w) : CallsN Tryz.prog 30 [a0] w R :=
 callsN_of_W3 (c := c30) (rs := [.tmp 2]) V30 Tryz.ntmps30 (by rw [Tryz.results30]) mixed Tryz.func30 (by kernel_rfl) (by kernel_rfl) (by kernel_rfl) (by kernel_rfl) (by simp) h
def w3t_30:=w3t Tryz.prog 22 V30
def hk30 := aI @c30_2_s <| aI @c30_6_s <| aI @c30_9_s <| aI @c30_8_s <| aI @c30_7_s <| aI @c30_5_s <| aI @c30_4_s <| aI @c30_3_s <| aI @c30_1_s <| aI @c30_s <| @w3t_30
-- K30: ↓hk30
/-! ### vouch/codec.known -/
def V51 : Nat → Bool := fun i => [0, 2].elem i
def reg51:=@s_reg Tryz.prog 9 V51
noncomputable def c51:Code:=(Tryz.f51.body.getD .skip)
noncomputable def c51_1:=cR c51
def c51_1_s:=@reg51 c51_1 .ret 1 (rO (cL c51_1)) (fun N M G k e w =>
 M (e 0) fun t3 =>
 N (xv (xbin .geq 3 (.tmp 3) (.const (.int .i64 1)) t3 (.int .i64 1))) w fun t4 w =>
 M t4 fun t5 =>
 G (isB t5 true) (fun K => M (e 0) fun v => K v w) (fun t6 w =>
 G (isB t5 true) (fun K => N (xv (xbin .leq 3 (.tmp 6) (.const (.int .i64 11)) t6 (.int .i64 11))) w K) (fun t7 w =>
 N (xpick t5 t7 (.bool false)) w fun t8 w =>
 M t8 fun t2 =>
 k (Env.p e 2 t2) w) w) w) (by kernel_rfl) (by intros; kernel_rfl)
def c51_s:=@reg51 c51 c51_1 0 (rO (cL c51)) (fun N M G k e w =>
 M (.bool false) fun t2 =>
 k (Env.p e 2 t2) w) (by kernel_rfl) (by intros; kernel_rfl)
theorem call51 {a0 : Value} {w : World} {R : Value → World → Prop} (h : W3 Tryz.prog 9 V51 c51 (retQ Tryz.prog [.tmp 2] R) (argE [a0]) w) : CallsN Tryz.prog 51 [a0] w R :=
 callsN_of_W3 (c := c51) (rs := [.tmp 2]) V51 Tryz.ntmps51 (by rw [Tryz.results51]) mixed Tryz.func51 (by kernel_rfl) (by kernel_rfl) (by kernel_rfl) (by kernel_rfl) (by simp) h
def w3t_51:=w3t Tryz.prog 9 V51
def hk51 := aI @c51_1_s <| aI @c51_s <| @w3t_51
-- K51: ↓hk51
/-! ### vouch/codec.unused -/
def V52 : Nat → Bool := fun i => [0, 1, 2, 3].elem i
def reg52:=@s_reg Tryz.prog 73 V52
noncomputable def c52:Code:=(Tryz.f52.body.getD .skip)
noncomputable def c52_1:=cR c52
noncomputable def c52_2:=cR c52_1
def c52_2_s:=@reg52 c52_2 .ret 2 (rO (cL c52_2)) (fun N M G k e w =>
 N (xv (fieldAt 40 (e 3) 1)) w fun t6 w =>
 N (xv (loadAt 3 t6)) w fun t7 w =>
 N (xv (xbin .eql 3 (.tmp 7) (.const (.int .i64 0)) t7 (.int .i64 0))) w fun t8 w =>
 M t8 fun t9 =>
 G (isB t9 true) (fun K => N (xv (fieldAt 40 (e 3) 2)) w K) (fun t10 w =>
 G (isB t9 true) (fun K => N (xv (loadAt 3 t10)) w K) (fun t11 w =>
 G (isB t9 true) (fun K => N (xv (xbin .eql 3 (.tmp 11) (.const (.int .i64 0)) t11 (.int .i64 0))) w K) (fun t12 w =>
 N (xpick t9 t12 (.bool false)) w fun t13 w =>
 M t13 fun t14 =>
 G (isB t14 true) (fun K => N (xv (fieldAt 40 (e 3) 3)) w K) (fun t15 w =>
 G (isB t14 true) (fun K => N (xv (loadAt 3 t15)) w K) (fun t16 w =>
 G (isB t14 true) (fun K => N (xv (xbin .eql 3 (.tmp 16) (.const (.int .i64 0)) t16 (.int .i64 0))) w K) (fun t17 w =>
 N (xpick t14 t17 (.bool false)) w fun t18 w =>
 M t18 fun t19 =>
 G (isB t19 true) (fun K => N (xv (fieldAt 40 (e 3) 4)) w K) (fun t20 w =>
 G (isB t19 true) (fun K => N (xv (loadAt 3 t20)) w K) (fun t21 w =>
 G (isB t19 true) (fun K => N (xv (xbin .eql 3 (.tmp 21) (.const (.int .i64 0)) t21 (.int .i64 0))) w K) (fun t22 w =>
 N (xpick t19 t22 (.bool false)) w fun t23 w =>
 M t23 fun t24 =>
 G (isB t24 true) (fun K => N (xv (fieldAt 40 (e 3) 5)) w K) (fun t25 w =>
 G (isB t24 true) (fun K => N (xv (loadAt 3 t25)) w K) (fun t26 w =>
 G (isB t24 true) (fun K => N (xv (xbin .eql 3 (.tmp 26) (.const (.int .i64 0)) t26 (.int .i64 0))) w K) (fun t27 w =>
 N (xpick t24 t27 (.bool false)) w fun t28 w =>
 M t28 fun t29 =>
 G (isB t29 true) (fun K => N (xv (fieldAt 40 (e 3) 6)) w K) (fun t30 w =>
 G (isB t29 true) (fun K => N (xv (loadAt 9 t30)) w K) (fun t31 w =>
 G (isB t29 true) (fun K => N (xv (xbin .eql 9 (.tmp 31) (.const (.string ⟨#[]⟩)) t31 (.string ⟨#[]⟩))) w K) (fun t32 w =>
 N (xpick t29 t32 (.bool false)) w fun t33 w =>
 M t33 fun t34 =>
 G (isB t34 true) (fun K => N (xv (fieldAt 40 (e 3) 7)) w K) (fun t35 w =>
 G (isB t34 true) (fun K => N (xv (loadAt 33 t35)) w K) (fun t36 w =>
 G (isB t34 true) (fun K => N (xv (Instr.build 33 ([]).toArray)) w K) (fun t37 w =>
 G (isB t34 true) (fun K => N (xv (xbin .eql 33 (.tmp 36) (.tmp 37) t36 t37)) w K) (fun t38 w =>
 N (xpick t34 t38 (.bool false)) w fun t39 w =>
 M t39 fun t40 =>
 G (isB t40 true) (fun K => N (xv (fieldAt 40 (e 3) 8)) w K) (fun t41 w =>
 G (isB t40 true) (fun K => N (xv (loadAt 35 t41)) w K) (fun t42 w =>
 G (isB t40 true) (fun K => N (xv (Instr.build 35 ([]).toArray)) w K) (fun t43 w =>
 G (isB t40 true) (fun K => N (xv (xbin .eql 35 (.tmp 42) (.tmp 43) t42 t43)) w K) (fun t44 w =>
 N (xpick t40 t44 (.bool false)) w fun t45 w =>
 M t45 fun t46 =>
 G (isB t46 true) (fun K => N (xv (fieldAt 40 (e 3) 9)) w K) (fun t47 w =>
 G (isB t46 true) (fun K => N (xv (loadAt 4 t47)) w K) (fun t48 w =>
 G (isB t46 true) (fun K => N (xv (Op.unary .not t48)) w K) (fun t49 w =>
 N (xpick t46 t49 (.bool false)) w fun t50 w =>
 M t50 fun t51 =>
 G (isB t51 true) (fun K => N (xv (fieldAt 40 (e 3) 10)) w K) (fun t52 w =>
 G (isB t51 true) (fun K => N (xv (loadAt 36 t52)) w K) (fun t53 w =>
 G (isB t51 true) (fun K => N (xv (xbin .eql 36 (.tmp 53) (.const (.int .i64 0)) t53 (.int .i64 0))) w K) (fun t54 w =>
 N (xpick t51 t54 (.bool false)) w fun t55 w =>
 M t55 fun t56 =>
 G (isB t56 true) (fun K => N (xv (fieldAt 40 (e 3) 11)) w K) (fun t57 w =>
 G (isB t56 true) (fun K => N (xv (loadAt 2 t57)) w K) (fun t58 w =>
 G (isB t56 true) (fun K => N (xv (xbin .eql 2 (.tmp 58) (.const (.int .i64 0)) t58 (.int .i64 0))) w K) (fun t59 w =>
 N (xpick t56 t59 (.bool false)) w fun t60 w =>
 M t60 fun t61 =>
 G (isB t61 true) (fun K => N (xv (fieldAt 40 (e 3) 12)) w K) (fun t62 w =>
 G (isB t61 true) (fun K => N (xv (loadAt 37 t62)) w K) (fun t63 w =>
 G (isB t61 true) (fun K => N (builtin Builtin.len #[37] 3 ([false]).toArray ([t63]).toArray) w K) (fun t64 w =>
 G (isB t61 true) (fun K => N (xv (xbin .eql 3 (.tmp 64) (.const (.int .i64 0)) t64 (.int .i64 0))) w K) (fun t65 w =>
 N (xpick t61 t65 (.bool false)) w fun t66 w =>
 M t66 fun t67 =>
 G (isB t67 true) (fun K => N (xv (fieldAt 40 (e 3) 13)) w K) (fun t68 w =>
 G (isB t67 true) (fun K => N (xv (loadAt 38 t68)) w K) (fun t69 w =>
 G (isB t67 true) (fun K => N (builtin Builtin.len #[38] 3 ([false]).toArray ([t69]).toArray) w K) (fun t70 w =>
 G (isB t67 true) (fun K => N (xv (xbin .eql 3 (.tmp 70) (.const (.int .i64 0)) t70 (.int .i64 0))) w K) (fun t71 w =>
 N (xpick t67 t71 (.bool false)) w fun t72 w =>
 M t72 fun t2 =>
 k (Env.p e 2 t2) w) w) w) w) w) w) w) w) w) w) w) w) w) w) w) w) w) w) w) w) w) w) w) w) w) w) w) w) w) w) w) w) w) w) w) w) w) w) w) w) w) (by kernel_rfl) (by intros; kernel_rfl)
def c52_1_s:=@reg52 c52_1 c52_2 1 (rO (cL c52_1)) (fun N M G k e w =>
 N (xv (loadAt 40 (e 1))) w fun t4 w =>
 N (xcall (.func (.func 78) #[] #[]) [t4]) w fun t5 w =>
 N (xv (Instr.alloc 40 true (.tuple #[]))) w fun t3 w =>
 N (xu (storeAt 40 t3 t5)) w fun _ w =>
 k (Env.p e 3 t3) w) (by kernel_rfl) (by intros; kernel_rfl)
def c52_s:=@reg52 c52 c52_1 0 (rO (cL c52)) (fun N M G k e w =>
 N (xv (Instr.box 40 (e 0))) w fun t1 w =>
 M (.bool false) fun t2 =>
 k (Env.p (Env.p e 1 t1) 2 t2) w) (by kernel_rfl) (by intros; kernel_rfl)
theorem call52 {a0 : Value} {w : World} {R : Value → World → Prop} (h : W3 Tryz.prog 73 V52 c52 (retQ Tryz.prog [.tmp 2] R) (argE [a0]) w) : CallsN Tryz.prog 52 [a0] w R :=
 callsN_of_W3 (c := c52) (rs := [.tmp 2]) V52 Tryz.ntmps52 (by rw [Tryz.results52]) mixed Tryz.func52 (by kernel_rfl) (by kernel_rfl) (by kernel_rfl) (by kernel_rfl) (by simp) h
def w3t_52:=w3t Tryz.prog 73 V52
def hk52 := aI @c52_2_s <| aI @c52_1_s <| aI @c52_s <| @w3t_52
-- K52: ↓hk52
/-! ### vouch/codec.numbers -/
def V53 : Nat → Bool := fun i => [0, 1, 2, 3, 4, 5, 6, 22, 32].elem i
def cond53:=@s_cond Tryz.prog 79 V53
def reg53:=@s_reg Tryz.prog 79 V53
def seq53:=@s_seq Tryz.prog 79 V53
noncomputable def c53:Code:=(Tryz.f53.body.getD .skip)
noncomputable def c53_1:=cR c53
noncomputable def c53_2:=cR c53_1
noncomputable def c53_3:=cR c53_2
noncomputable def c53_4:=cR c53_3
noncomputable def c53_5:=cR c53_4
noncomputable def c53_6:=cR c53_5
noncomputable def c53_7:=cR c53_6
noncomputable def c53_8:=cL c53_3
noncomputable def c53_9:=cR c53_8
noncomputable def c53_10:=cL c53_9
noncomputable def c53_11:=cL c53_2
noncomputable def c53_12:=cR c53_11
noncomputable def c53_13:=cL c53_12
def c53_7_s:=@reg53 c53_7 .ret 9 (rO (cL c53_7)) (fun N M G k e w =>
 M (e 4) fun t52 =>
 N (xv (Op.unary .not t52)) w fun t53 w =>
 M t53 fun t54 =>
 G (isB t54 false) (fun K => N (xv (fieldAt 40 (e 1) 5)) w K) (fun t55 w =>
 G (isB t54 false) (fun K => N (xv (loadAt 3 t55)) w K) (fun t56 w =>
 G (isB t54 false) (fun K => M (e 3) fun v => K v w) (fun t57 w =>
 G (isB t54 false) (fun K => N (xcall (.func (.func 79) #[] #[]) [t56, (.int .i64 1), t57]) w K) (fun t58 w =>
 N (xpick t54 (.bool true) t58) w fun t59 w =>
 M t59 fun t60 =>
 G (isB t60 true) (fun K => M (e 5) fun v => K v w) (fun t61 w =>
 G (isB t60 true) (fun K => N (xv (Op.unary .not t61)) w K) (fun t62 w =>
 G (isB t60 true) (fun K => M t62 fun v => K v w) (fun t63 w =>
 G (isB t63 false) (fun K => N (xv (fieldAt 40 (e 1) 2)) w K) (fun t64 w =>
 G (isB t63 false) (fun K => N (xv (loadAt 3 t64)) w K) (fun t65 w =>
 G (isB t63 false) (fun K => M (e 3) fun v => K v w) (fun t66 w =>
 G (isB t63 false) (fun K => N (xcall (.func (.func 79) #[] #[]) [t65, (.int .i64 1), t66]) w K) (fun t67 w =>
 G (isB t60 true) (fun K => N (xpick t63 (.bool true) t67) w K) (fun t68 w =>
 N (xpick t60 t68 (.bool false)) w fun t69 w =>
 M t69 fun t70 =>
 G (isB t70 true) (fun K => M (e 6) fun v => K v w) (fun t71 w =>
 G (isB t70 true) (fun K => N (xv (Op.unary .not t71)) w K) (fun t72 w =>
 G (isB t70 true) (fun K => M t72 fun v => K v w) (fun t73 w =>
 G (isB t73 false) (fun K => N (xv (fieldAt 40 (e 1) 11)) w K) (fun t74 w =>
 G (isB t73 false) (fun K => N (xv (loadAt 2 t74)) w K) (fun t75 w =>
 G (isB t73 false) (fun K => N (xv (xbin .geq 2 (.tmp 75) (.const (.int .i64 1)) t75 (.int .i64 1))) w K) (fun t76 w =>
 G (isB t70 true) (fun K => N (xpick t73 (.bool true) t76) w K) (fun t77 w =>
 N (xpick t70 t77 (.bool false)) w fun t78 w =>
 M t78 fun t2 =>
 k (Env.p e 2 t2) w) w) w) w) w) w) w) w) w) w) w) w) w) w) w) w) w) w) w) w) (by kernel_rfl) (by intros; kernel_rfl)
def c53_6_s:=@reg53 c53_6 c53_7 8 (rO (cL c53_6)) (fun N M G k e w =>
 N (xv (fieldAt 40 (e 1) 0)) w fun t44 w =>
 N (xv (loadAt 3 t44)) w fun t45 w =>
 N (xv (xbin .eql 3 (.tmp 45) (.const (.int .i64 8)) t45 (.int .i64 8))) w fun t46 w =>
 M t46 fun t47 =>
 G (isB t47 false) (fun K => N (xv (fieldAt 40 (e 1) 0)) w K) (fun t48 w =>
 G (isB t47 false) (fun K => N (xv (loadAt 3 t48)) w K) (fun t49 w =>
 G (isB t47 false) (fun K => N (xv (xbin .eql 3 (.tmp 49) (.const (.int .i64 9)) t49 (.int .i64 9))) w K) (fun t50 w =>
 N (xpick t47 (.bool true) t50) w fun t51 w =>
 M t51 fun t6 =>
 k (Env.p e 6 t6) w) w) w) w) (by kernel_rfl) (by intros; kernel_rfl)
def c53_5_s:=@reg53 c53_5 c53_6 7 (rO (cL c53_5)) (fun N M G k e w =>
 N (xv (fieldAt 40 (e 1) 0)) w fun t36 w =>
 N (xv (loadAt 3 t36)) w fun t37 w =>
 N (xv (xbin .eql 3 (.tmp 37) (.const (.int .i64 10)) t37 (.int .i64 10))) w fun t38 w =>
 M t38 fun t39 =>
 G (isB t39 false) (fun K => N (xv (fieldAt 40 (e 1) 0)) w K) (fun t40 w =>
 G (isB t39 false) (fun K => N (xv (loadAt 3 t40)) w K) (fun t41 w =>
 G (isB t39 false) (fun K => N (xv (xbin .eql 3 (.tmp 41) (.const (.int .i64 11)) t41 (.int .i64 11))) w K) (fun t42 w =>
 N (xpick t39 (.bool true) t42) w fun t43 w =>
 M t43 fun t5 =>
 k (Env.p e 5 t5) w) w) w) w) (by kernel_rfl) (by intros; kernel_rfl)
def c53_4_s:=@reg53 c53_4 c53_5 6 (rO (cL c53_4)) (fun N M G k e w =>
 N (xv (fieldAt 40 (e 1) 0)) w fun t33 w =>
 N (xv (loadAt 3 t33)) w fun t34 w =>
 N (xv (xbin .leq 3 (.tmp 34) (.const (.int .i64 6)) t34 (.int .i64 6))) w fun t35 w =>
 M t35 fun t4 =>
 k (Env.p e 4 t4) w) (by kernel_rfl) (by intros; kernel_rfl)
def c53_10_s:=@reg53 c53_10 .ret 5 (rO (cL c53_10)) (fun N M G k e w =>
 M (.bool false) fun t2 =>
 k (Env.p e 2 t2) w) (by kernel_rfl) (by intros; kernel_rfl)
def c53_9_s:=@cond53 c53_9 .skip 32 c53_10 (by kernel_rfl) (by kernel_rfl)
def c53_8_s:=@reg53 c53_8 c53_9 4 (rO (cL c53_8)) (fun N M G k e w =>
 N (xv (fieldAt 40 (e 1) 10)) w fun t23 w =>
 N (xv (loadAt 36 t23)) w fun t24 w =>
 N (xcall (.func (.func 79) #[] #[]) [t24, (.int .i64 0), (.int .i64 255)]) w fun t25 w =>
 N (xv (Op.unary .not t25)) w fun t26 w =>
 M t26 fun t27 =>
 G (isB t27 false) (fun K => N (xv (fieldAt 40 (e 1) 11)) w K) (fun t28 w =>
 G (isB t27 false) (fun K => N (xv (loadAt 2 t28)) w K) (fun t29 w =>
 G (isB t27 false) (fun K => N (xcall (.func (.func 79) #[] #[]) [t29, (.int .i64 0), (.int .i64 1099511627776)]) w K) (fun t30 w =>
 G (isB t27 false) (fun K => N (xv (Op.unary .not t30)) w K) (fun t31 w =>
 N (xpick t27 (.bool true) t31) w fun t32 w =>
 k (Env.p e 32 t32) w) w) w) w) w) (by kernel_rfl) (by intros; kernel_rfl)
def c53_3_s:=@seq53 c53_3 c53_4 c53_8 (by kernel_rfl)
def c53_13_s:=@reg53 c53_13 .ret 3 (rO (cL c53_13)) (fun N M G k e w =>
 M (.bool false) fun t2 =>
 k (Env.p e 2 t2) w) (by kernel_rfl) (by intros; kernel_rfl)
def c53_12_s:=@cond53 c53_12 .skip 22 c53_13 (by kernel_rfl) (by kernel_rfl)
def c53_11_s:=@reg53 c53_11 c53_12 2 (rO (cL c53_11)) (fun N M G k e w =>
 N (xv (fieldAt 40 (e 1) 1)) w fun t7 w =>
 N (xv (loadAt 3 t7)) w fun t8 w =>
 N (xcall (.func (.func 79) #[] #[]) [t8, (.int .i64 0), (.int .i64 7)]) w fun t9 w =>
 N (xv (Op.unary .not t9)) w fun t10 w =>
 M t10 fun t11 =>
 G (isB t11 false) (fun K => N (xv (fieldAt 40 (e 1) 3)) w K) (fun t12 w =>
 G (isB t11 false) (fun K => N (xv (loadAt 3 t12)) w K) (fun t13 w =>
 G (isB t11 false) (fun K => N (xcall (.func (.func 79) #[] #[]) [t13, (.int .i64 0), (.int .i64 63)]) w K) (fun t14 w =>
 G (isB t11 false) (fun K => N (xv (Op.unary .not t14)) w K) (fun t15 w =>
 N (xpick t11 (.bool true) t15) w fun t16 w =>
 M t16 fun t17 =>
 G (isB t17 false) (fun K => N (xv (fieldAt 40 (e 1) 4)) w K) (fun t18 w =>
 G (isB t17 false) (fun K => N (xv (loadAt 3 t18)) w K) (fun t19 w =>
 G (isB t17 false) (fun K => N (xcall (.func (.func 79) #[] #[]) [t19, (.int .i64 0), (.int .i64 255)]) w K) (fun t20 w =>
 G (isB t17 false) (fun K => N (xv (Op.unary .not t20)) w K) (fun t21 w =>
 N (xpick t17 (.bool true) t21) w fun t22 w =>
 k (Env.p e 22 t22) w) w) w) w) w) w) w) w) w) (by kernel_rfl) (by intros; kernel_rfl)
def c53_2_s:=@seq53 c53_2 c53_3 c53_11 (by kernel_rfl)
def c53_1_s:=@reg53 c53_1 c53_2 1 (rO (cL c53_1)) (fun N M G k e w =>
 M (.int .i64 2147483647) fun t3 =>
 k (Env.p e 3 t3) w) (by kernel_rfl) (by intros; kernel_rfl)
def c53_s:=@reg53 c53 c53_1 0 (rO (cL c53)) (fun N M G k e w =>
 N (xv (Instr.box 40 (e 0))) w fun t1 w =>
 M (.bool false) fun t2 =>
 k (Env.p (Env.p e 1 t1) 2 t2) w) (by kernel_rfl) (by intros; kernel_rfl)
theorem call53 {a0 : Value} {w : World} {R : Value → World → Prop} (h : W3 Tryz.prog 79 V53 c53 (retQ Tryz.prog [.tmp 2] R) (argE [a0]) w) : CallsN Tryz.prog 53 [a0] w R :=
 callsN_of_W3 (c := c53) (rs := [.tmp 2]) V53 Tryz.ntmps53 (by rw [Tryz.results53]) mixed Tryz.func53 (by kernel_rfl) (by kernel_rfl) (by kernel_rfl) (by kernel_rfl) (by simp) h
def w3t_53:=w3t Tryz.prog 79 V53
def hk53 := aI @c53_7_s <| aI @c53_6_s <| aI @c53_5_s <| aI @c53_4_s <| aI @c53_10_s <| aI @c53_9_s <| aI @c53_8_s <| aI @c53_3_s <| aI @c53_13_s <| aI @c53_12_s <| aI @c53_11_s <| aI @c53_2_s <| aI @c53_1_s <| aI @c53_s <| @w3t_53
-- K53: ↓hk53
/-! ### vouch/codec.things -/
def V54 : Nat → Bool := fun i => [0, 1, 2, 3, 4, 5, 7, 8, 21, 32, 47, 74].elem i
def block54:=@s_block Tryz.prog 87 V54
def cond54:=@s_cond Tryz.prog 87 V54
def reg54:=@s_reg Tryz.prog 87 V54
def rend54:=@s_rend Tryz.prog 87 V54
def seq54:=@s_seq Tryz.prog 87 V54
noncomputable def c54:Code:=(Tryz.f54.body.getD .skip)
noncomputable def c54_1:=cR c54
noncomputable def c54_2:=cR c54_1
noncomputable def c54_3:=cL c54_1
noncomputable def c54_4:=cR c54_3
noncomputable def c54_5:=cL c54_4
noncomputable def c54_6:=cR c54_5
noncomputable def c54_7:=cL c54_6
noncomputable def c54_8:=cR c54_7
noncomputable def c54_9:=cR c54_6
noncomputable def c54_10:=cR c54_9
noncomputable def c54_11:=cL c54_10
noncomputable def c54_12:=cR c54_10
noncomputable def c54_13:=cR c54_12
noncomputable def c54_14:=cL c54_13
noncomputable def c54_15:=cR c54_13
noncomputable def c54_16:=cR c54_15
noncomputable def c54_17:=cL c54_16
noncomputable def c54_18:=cR c54_17
noncomputable def c54_19:=cR c54_16
noncomputable def c54_20:=cR c54_19
noncomputable def c54_21:=cL c54_20
noncomputable def c54_22:=cR c54_21
noncomputable def c54_23:=cL c54_15
noncomputable def c54_24:=cR c54_23
noncomputable def c54_25:=cR c54_24
noncomputable def c54_26:=cL c54_9
noncomputable def c54_27:=cR c54_26
noncomputable def c54_28:=cR c54_27
def c54_2_s:=@reg54 c54_2 .ret 17 (rO (cL c54_2)) (fun N M G k e w =>
 M (.bool true) fun t2 =>
 k (Env.p e 2 t2) w) (by kernel_rfl) (by intros; kernel_rfl)
def c54_8_s:=@reg54 c54_8 .ret 4 (rO (cL c54_8)) (fun N M G k e w =>
 N (xv (fieldAt 40 (e 1) 12)) w fun t10 w =>
 N (xv (loadAt 37 t10)) w fun t11 w =>
 N (builtin Builtin.len #[37] 3 ([false]).toArray ([t11]).toArray) w fun t12 w =>
 N (xcall (.func (.func 79) #[] #[]) [t12, (.int .i64 1), (.int .i64 8)]) w fun t13 w =>
 M t13 fun t14 =>
 G (isB t14 true) (fun K => N (xv (fieldAt 40 (e 1) 12)) w K) (fun t15 w =>
 G (isB t14 true) (fun K => N (xv (loadAt 37 t15)) w K) (fun t16 w =>
 G (isB t14 true) (fun K => M (e 3) fun v => K v w) (fun t17 w =>
 G (isB t14 true) (fun K => N (xcall (.func (.func 83) #[] #[]) [t16, t17]) w K) (fun t18 w =>
 G (isB t14 true) (fun K => N (xv (Op.unary .not t18)) w K) (fun t19 w =>
 N (xpick t14 t19 (.bool false)) w fun t20 w =>
 M t20 fun t2 =>
 k (Env.p e 2 t2) w) w) w) w) w) w) (by kernel_rfl) (by intros; kernel_rfl)
def c54_7_s:=@reg54 c54_7 c54_8 3 (rO (cL c54_7)) (fun N M G k e w =>
 M (.func (.func 80) #[] #[]) fun t3 =>
 k (Env.p e 3 t3) w) (by kernel_rfl) (by intros; kernel_rfl)
def c54_11_s:=@reg54 c54_11 .ret 7 (rO (cL c54_11)) (fun N M G k e w =>
 N (xv (fieldAt 40 (e 1) 6)) w fun t24 w =>
 N (xv (loadAt 9 t24)) w fun t25 w =>
 N (xcall (.func (.func 81) #[] #[]) [t25]) w fun t26 w =>
 M t26 fun t27 =>
 G (isB t27 true) (fun K => N (xv (fieldAt 40 (e 1) 7)) w K) (fun t28 w =>
 G (isB t27 true) (fun K => N (xv (loadAt 33 t28)) w K) (fun t29 w =>
 G (isB t27 true) (fun K => N (xcall (.func (.func 84) #[] #[]) [t29]) w K) (fun t30 w =>
 N (xpick t27 t30 (.bool false)) w fun t31 w =>
 M t31 fun t2 =>
 k (Env.p e 2 t2) w) w) w) w) (by kernel_rfl) (by intros; kernel_rfl)
def c54_14_s:=@reg54 c54_14 .ret 9 (rO (cL c54_14)) (fun N M G k e w =>
 N (xv (fieldAt 40 (e 1) 6)) w fun t34 w =>
 N (xv (loadAt 9 t34)) w fun t35 w =>
 N (xcall (.func (.func 81) #[] #[]) [t35]) w fun t36 w =>
 M t36 fun t37 =>
 G (isB t37 true) (fun K => N (xv (fieldAt 40 (e 1) 8)) w K) (fun t38 w =>
 G (isB t37 true) (fun K => N (xv (loadAt 35 t38)) w K) (fun t39 w =>
 G (isB t37 true) (fun K => N (xcall (.func (.func 82) #[] #[]) [t39]) w K) (fun t40 w =>
 N (xpick t37 t40 (.bool false)) w fun t41 w =>
 M t41 fun t42 =>
 G (isB t42 true) (fun K => N (xv (fieldAt 40 (e 1) 7)) w K) (fun t43 w =>
 G (isB t42 true) (fun K => N (xv (loadAt 33 t43)) w K) (fun t44 w =>
 G (isB t42 true) (fun K => N (xcall (.func (.func 84) #[] #[]) [t44]) w K) (fun t45 w =>
 N (xpick t42 t45 (.bool false)) w fun t46 w =>
 M t46 fun t2 =>
 k (Env.p e 2 t2) w) w) w) w) w) w) w) (by kernel_rfl) (by intros; kernel_rfl)
def c54_18_s:=@reg54 c54_18 .ret 13 (rO (cL c54_18)) (fun N M G k e w =>
 M (e 4) fun t62 =>
 N (xv (Op.unary .not t62)) w fun t63 w =>
 M t63 fun t64 =>
 G (isB t64 false) (fun K => N (xv (fieldAt 40 (e 1) 8)) w K) (fun t65 w =>
 G (isB t64 false) (fun K => N (xv (loadAt 35 t65)) w K) (fun t66 w =>
 G (isB t64 false) (fun K => N (xcall (.func (.func 82) #[] #[]) [t66]) w K) (fun t67 w =>
 G (isB t64 false) (fun K => M t67 fun v => K v w) (fun t68 w =>
 G (isB t68 true) (fun K => N (xv (fieldAt 40 (e 1) 7)) w K) (fun t69 w =>
 G (isB t68 true) (fun K => N (xv (loadAt 33 t69)) w K) (fun t70 w =>
 G (isB t68 true) (fun K => N (xcall (.func (.func 84) #[] #[]) [t70]) w K) (fun t71 w =>
 G (isB t64 false) (fun K => N (xpick t68 t71 (.bool false)) w K) (fun t72 w =>
 N (xpick t64 (.bool true) t72) w fun t73 w =>
 M t73 fun t2 =>
 k (Env.p e 2 t2) w) w) w) w) w) w) w) w) w) (by kernel_rfl) (by intros; kernel_rfl)
def c54_17_s:=@reg54 c54_17 c54_18 12 (rO (cL c54_17)) (fun N M G k e w =>
 N (xv (fieldAt 40 (e 1) 9)) w fun t50 w =>
 N (xv (loadAt 4 t50)) w fun t51 w =>
 M t51 fun t52 =>
 G (isB t52 false) (fun K => N (xv (fieldAt 40 (e 1) 0)) w K) (fun t53 w =>
 G (isB t52 false) (fun K => N (xv (loadAt 3 t53)) w K) (fun t54 w =>
 G (isB t52 false) (fun K => N (xv (xbin .eql 3 (.tmp 54) (.const (.int .i64 6)) t54 (.int .i64 6))) w K) (fun t55 w =>
 G (isB t52 false) (fun K => M t55 fun v => K v w) (fun t56 w =>
 G (isB t56 true) (fun K => N (xv (fieldAt 40 (e 1) 10)) w K) (fun t57 w =>
 G (isB t56 true) (fun K => N (xv (loadAt 36 t57)) w K) (fun t58 w =>
 G (isB t56 true) (fun K => N (xv (xbin .eql 36 (.tmp 58) (.const (.int .i64 0)) t58 (.int .i64 0))) w K) (fun t59 w =>
 G (isB t52 false) (fun K => N (xpick t56 t59 (.bool false)) w K) (fun t60 w =>
 N (xpick t52 (.bool true) t60) w fun t61 w =>
 M t61 fun t4 =>
 k (Env.p e 4 t4) w) w) w) w) w) w) w) w) w) (by kernel_rfl) (by intros; kernel_rfl)
def c54_22_s:=@reg54 c54_22 .ret 16 (rO (cL c54_22)) (fun N M G k e w =>
 N (xv (fieldAt 40 (e 1) 13)) w fun t76 w =>
 N (xv (loadAt 38 t76)) w fun t77 w =>
 N (builtin Builtin.len #[38] 3 ([false]).toArray ([t77]).toArray) w fun t78 w =>
 N (xcall (.func (.func 79) #[] #[]) [t78, (.int .i64 1), (.int .i64 8)]) w fun t79 w =>
 M t79 fun t80 =>
 G (isB t80 true) (fun K => N (xv (fieldAt 40 (e 1) 13)) w K) (fun t81 w =>
 G (isB t80 true) (fun K => N (xv (loadAt 38 t81)) w K) (fun t82 w =>
 G (isB t80 true) (fun K => M (e 5) fun v => K v w) (fun t83 w =>
 G (isB t80 true) (fun K => N (xcall (.func (.func 86) #[] #[]) [t82, t83]) w K) (fun t84 w =>
 G (isB t80 true) (fun K => N (xv (Op.unary .not t84)) w K) (fun t85 w =>
 N (xpick t80 t85 (.bool false)) w fun t86 w =>
 M t86 fun t2 =>
 k (Env.p e 2 t2) w) w) w) w) w) w) (by kernel_rfl) (by intros; kernel_rfl)
def c54_21_s:=@reg54 c54_21 c54_22 15 (rO (cL c54_21)) (fun N M G k e w =>
 M (.func (.func 85) #[] #[]) fun t5 =>
 k (Env.p e 5 t5) w) (by kernel_rfl) (by intros; kernel_rfl)
def c54_20_s:=@cond54 c54_20 .skip 74 c54_21 (by kernel_rfl) (by kernel_rfl)
def c54_19_s:=@reg54 c54_19 c54_20 14 (rO (cL c54_19)) (fun N M G k e w =>
 N (xv (xbin .eql 3 (.tmp 7) (.const (.int .i64 8)) (e 7) (.int .i64 8))) w fun t75 w =>
 M t75 fun t74 =>
 k (Env.p e 74 t74) w) (by kernel_rfl) (by intros; kernel_rfl)
def c54_16_s:=@cond54 c54_16 c54_19 47 c54_17 (by kernel_rfl) (by kernel_rfl)
def c54_25_s:=@rend54 c54_25 11 (rO c54_25) (fun N M G k e w =>
 N (xv (xbin .eql 3 (.tmp 7) (.const (.int .i64 6)) (e 7) (.int .i64 6))) w fun t49 w =>
 M t49 fun t47 =>
 k (Env.p e 47 t47) w) (by kernel_rfl) (by intros; kernel_rfl)
def c54_24_s:=@cond54 c54_24 c54_25 47 .skip (by kernel_rfl) (by kernel_rfl)
def c54_23_s:=@reg54 c54_23 c54_24 10 (rO (cL c54_23)) (fun N M G k e w =>
 N (xv (xbin .eql 3 (.tmp 7) (.const (.int .i64 4)) (e 7) (.int .i64 4))) w fun t48 w =>
 M t48 fun t47 =>
 k (Env.p e 47 t47) w) (by kernel_rfl) (by intros; kernel_rfl)
def c54_15_s:=@seq54 c54_15 c54_16 c54_23 (by kernel_rfl)
def c54_13_s:=@cond54 c54_13 c54_15 32 c54_14 (by kernel_rfl) (by kernel_rfl)
def c54_12_s:=@reg54 c54_12 c54_13 8 (rO (cL c54_12)) (fun N M G k e w =>
 N (xv (xbin .eql 3 (.tmp 7) (.const (.int .i64 7)) (e 7) (.int .i64 7))) w fun t33 w =>
 M t33 fun t32 =>
 k (Env.p e 32 t32) w) (by kernel_rfl) (by intros; kernel_rfl)
def c54_10_s:=@cond54 c54_10 c54_12 21 c54_11 (by kernel_rfl) (by kernel_rfl)
def c54_28_s:=@rend54 c54_28 6 (rO c54_28) (fun N M G k e w =>
 N (xv (xbin .eql 3 (.tmp 7) (.const (.int .i64 5)) (e 7) (.int .i64 5))) w fun t23 w =>
 M t23 fun t21 =>
 k (Env.p e 21 t21) w) (by kernel_rfl) (by intros; kernel_rfl)
def c54_27_s:=@cond54 c54_27 c54_28 21 .skip (by kernel_rfl) (by kernel_rfl)
def c54_26_s:=@reg54 c54_26 c54_27 5 (rO (cL c54_26)) (fun N M G k e w =>
 N (xv (xbin .eql 3 (.tmp 7) (.const (.int .i64 3)) (e 7) (.int .i64 3))) w fun t22 w =>
 M t22 fun t21 =>
 k (Env.p e 21 t21) w) (by kernel_rfl) (by intros; kernel_rfl)
def c54_9_s:=@seq54 c54_9 c54_10 c54_26 (by kernel_rfl)
def c54_6_s:=@cond54 c54_6 c54_9 8 c54_7 (by kernel_rfl) (by kernel_rfl)
def c54_5_s:=@reg54 c54_5 c54_6 2 (rO (cL c54_5)) (fun N M G k e w =>
 N (xv (xbin .eql 3 (.tmp 7) (.const (.int .i64 1)) (e 7) (.int .i64 1))) w fun t9 w =>
 M t9 fun t8 =>
 k (Env.p e 8 t8) w) (by kernel_rfl) (by intros; kernel_rfl)
def c54_4_s:=@block54 c54_4 c54_5 0 (by kernel_rfl)
def c54_3_s:=@reg54 c54_3 c54_4 1 (rO (cL c54_3)) (fun N M G k e w =>
 N (xv (fieldAt 40 (e 1) 0)) w fun t6 w =>
 N (xv (loadAt 3 t6)) w fun t7 w =>
 k (Env.p e 7 t7) w) (by kernel_rfl) (by intros; kernel_rfl)
def c54_1_s:=@seq54 c54_1 c54_2 c54_3 (by kernel_rfl)
def c54_s:=@reg54 c54 c54_1 0 (rO (cL c54)) (fun N M G k e w =>
 N (xv (Instr.box 40 (e 0))) w fun t1 w =>
 M (.bool false) fun t2 =>
 k (Env.p (Env.p e 1 t1) 2 t2) w) (by kernel_rfl) (by intros; kernel_rfl)
theorem call54 {a0 : Value} {w : World} {R : Value → World → Prop} (h : W3 Tryz.prog 87 V54 c54 (retQ Tryz.prog [.tmp 2] R) (argE [a0]) w) : CallsN Tryz.prog 54 [a0] w R :=
 callsN_of_W3 (c := c54) (rs := [.tmp 2]) V54 Tryz.ntmps54 (by rw [Tryz.results54]) mixed Tryz.func54 (by kernel_rfl) (by kernel_rfl) (by kernel_rfl) (by kernel_rfl) (by simp) h
def w3t_54:=w3t Tryz.prog 87 V54
def hk54 := aI @c54_2_s <| aI @c54_8_s <| aI @c54_7_s <| aI @c54_11_s <| aI @c54_14_s <| aI @c54_18_s <| aI @c54_17_s <| aI @c54_22_s <| aI @c54_21_s <| aI @c54_20_s <| aI @c54_19_s <| aI @c54_16_s <| aI @c54_25_s <| aI @c54_24_s <| aI @c54_23_s <| aI @c54_15_s <| aI @c54_13_s <| aI @c54_12_s <| aI @c54_10_s <| aI @c54_28_s <| aI @c54_27_s <| aI @c54_26_s <| aI @c54_9_s <| aI @c54_6_s <| aI @c54_5_s <| aI @c54_4_s <| aI @c54_3_s <| aI @c54_1_s <| aI @c54_s <| @w3t_54
-- K54: ↓hk54
/-! ### vouch/codec.things$1 -/
def V80 : Nat → Bool := fun i => [0, 1, 2].elem i
def reg80:=@s_reg Tryz.prog 13 V80
noncomputable def c80:Code:=(Tryz.f80.body.getD .skip)
noncomputable def c80_1:=cR c80
def c80_1_s:=@reg80 c80_1 .ret 1 (rO (cL c80_1)) (fun N M G k e w =>
 N (xv (fieldAt 66 (e 1) 0)) w fun t3 w =>
 N (xv (loadAt 9 t3)) w fun t4 w =>
 N (xcall (.func (.func 81) #[] #[]) [t4]) w fun t5 w =>
 N (xv (Op.unary .not t5)) w fun t6 w =>
 M t6 fun t7 =>
 G (isB t7 false) (fun K => N (xv (fieldAt 66 (e 1) 1)) w K) (fun t8 w =>
 G (isB t7 false) (fun K => N (xv (loadAt 35 t8)) w K) (fun t9 w =>
 G (isB t7 false) (fun K => N (xcall (.func (.func 82) #[] #[]) [t9]) w K) (fun t10 w =>
 G (isB t7 false) (fun K => N (xv (Op.unary .not t10)) w K) (fun t11 w =>
 N (xpick t7 (.bool true) t11) w fun t12 w =>
 M t12 fun t2 =>
 k (Env.p e 2 t2) w) w) w) w) w) (by kernel_rfl) (by intros; kernel_rfl)
def c80_s:=@reg80 c80 c80_1 0 (rO (cL c80)) (fun N M G k e w =>
 N (xv (Instr.box 66 (e 0))) w fun t1 w =>
 M (.bool false) fun t2 =>
 k (Env.p (Env.p e 1 t1) 2 t2) w) (by kernel_rfl) (by intros; kernel_rfl)
theorem call80 {a0 : Value} {w : World} {R : Value → World → Prop} (h : W3 Tryz.prog 13 V80 c80 (retQ Tryz.prog [.tmp 2] R) (argE [a0]) w) : CallsN Tryz.prog 80 [a0] w R :=
 callsN_of_W3 (c := c80) (rs := [.tmp 2]) V80 Tryz.ntmps80 (by rw [Tryz.results80]) mixed Tryz.func80 (by kernel_rfl) (by kernel_rfl) (by kernel_rfl) (by kernel_rfl) (by simp) h
def w3t_80:=w3t Tryz.prog 13 V80
def hk80 := aI @c80_1_s <| aI @c80_s <| @w3t_80
-- K80: ↓hk80
/-! ### vouch/codec.things$2 -/
def V85 : Nat → Bool := fun i => [0, 2].elem i
def reg85:=@s_reg Tryz.prog 6 V85
noncomputable def c85:Code:=(Tryz.f85.body.getD .skip)
noncomputable def c85_1:=cR c85
def c85_1_s:=@reg85 c85_1 .ret 1 (rO (cL c85_1)) (fun N M G k e w =>
 M (e 0) fun t3 =>
 N (xcall (.func (.func 81) #[] #[]) [t3]) w fun t4 w =>
 N (xv (Op.unary .not t4)) w fun t5 w =>
 M t5 fun t2 =>
 k (Env.p e 2 t2) w) (by kernel_rfl) (by intros; kernel_rfl)
def c85_s:=@reg85 c85 c85_1 0 (rO (cL c85)) (fun N M G k e w =>
 M (.bool false) fun t2 =>
 k (Env.p e 2 t2) w) (by kernel_rfl) (by intros; kernel_rfl)
theorem call85 {a0 : Value} {w : World} {R : Value → World → Prop} (h : W3 Tryz.prog 6 V85 c85 (retQ Tryz.prog [.tmp 2] R) (argE [a0]) w) : CallsN Tryz.prog 85 [a0] w R :=
 callsN_of_W3 (c := c85) (rs := [.tmp 2]) V85 Tryz.ntmps85 (by rw [Tryz.results85]) mixed Tryz.func85 (by kernel_rfl) (by kernel_rfl) (by kernel_rfl) (by kernel_rfl) (by simp) h
def w3t_85:=w3t Tryz.prog 6 V85
def hk85 := aI @c85_1_s <| aI @c85_s <| @w3t_85
-- K85: ↓hk85
/-! ### vouch/codec.blank -/
def V78 : Nat → Bool := fun i => [0, 1, 2, 3, 6, 7, 15, 21, 31, 33, 40, 59, 64, 73, 81, 85, 89].elem i
def block78:=@s_block Tryz.prog 92 V78
def cond78:=@s_cond Tryz.prog 92 V78
def drwE78:=@s_drwE Tryz.prog 92 V78
def reg78:=@s_reg Tryz.prog 92 V78
def rend78:=@s_rend Tryz.prog 92 V78
def seq78:=@s_seq Tryz.prog 92 V78
noncomputable def c78:Code:=(Tryz.f78.body.getD .skip)
noncomputable def c78_1:=cR c78
noncomputable def c78_2:=cR c78_1
noncomputable def c78_3:=cR c78_2
noncomputable def c78_4:=cL c78_2
noncomputable def c78_5:=cR c78_4
noncomputable def c78_6:=cL c78_5
noncomputable def c78_7:=cR c78_6
noncomputable def c78_8:=cL c78_7
noncomputable def c78_9:=cR c78_8
noncomputable def c78_10:=cR c78_9
noncomputable def c78_11:=cL c78_10
noncomputable def b78_7:List Row:=[(0, 0, 2, 17, true), (1, 1, 65536, 18, true), (0, 0, 8, 19, true), (4, 4, 262144, 0, false), (12, 12, 8, 20, true), (28, 28, 524288, 0, false), (63, 63, 8, 21, true), (127, 127, 1179648, 0, false)]
noncomputable def c78_12:=cR c78_7
noncomputable def c78_13:=cR c78_12
noncomputable def c78_14:=cL c78_13
noncomputable def c78_15:=cR c78_14
noncomputable def c78_16:=cR c78_15
noncomputable def c78_17:=cL c78_16
noncomputable def c78_18:=cR c78_13
noncomputable def c78_19:=cR c78_18
noncomputable def c78_20:=cL c78_19
noncomputable def c78_21:=cR c78_20
noncomputable def c78_22:=cR c78_21
noncomputable def c78_23:=cR c78_22
noncomputable def c78_24:=cL c78_23
noncomputable def c78_25:=cL c78_21
noncomputable def c78_26:=cR c78_25
noncomputable def c78_27:=cL c78_26
noncomputable def c78_28:=cR c78_26
noncomputable def c78_29:=cR c78_19
noncomputable def c78_30:=cR c78_29
noncomputable def c78_31:=cL c78_30
noncomputable def c78_32:=cR c78_30
noncomputable def c78_33:=cR c78_32
noncomputable def c78_34:=cL c78_33
noncomputable def c78_35:=cR c78_34
noncomputable def c78_36:=cR c78_35
noncomputable def c78_37:=cR c78_36
noncomputable def c78_38:=cR c78_37
noncomputable def c78_39:=cL c78_38
noncomputable def c78_40:=cL c78_36
noncomputable def c78_41:=cR c78_40
noncomputable def c78_42:=cL c78_41
noncomputable def c78_43:=cL c78_35
noncomputable def c78_44:=cR c78_43
noncomputable def c78_45:=cL c78_44
noncomputable def c78_46:=cL c78_32
noncomputable def c78_47:=cR c78_46
noncomputable def c78_48:=cR c78_47
noncomputable def c78_49:=cR c78_48
noncomputable def c78_50:=cR c78_49
noncomputable def c78_51:=cR c78_50
noncomputable def c78_52:=cR c78_51
noncomputable def c78_53:=cL c78_18
noncomputable def c78_54:=cR c78_53
noncomputable def c78_55:=cR c78_54
noncomputable def c78_56:=cL c78_12
noncomputable def c78_57:=cR c78_56
noncomputable def c78_58:=cR c78_57
noncomputable def c78_59:=cL c78_6
noncomputable def c78_60:=cR c78_59
noncomputable def c78_61:=cR c78_60
def c78_3_s:=@reg78 c78_3 .ret 34 (rO (cL c78_3)) (fun N M G k e w =>
 N (xv (loadAt 40 (e 3))) w fun t91 w =>
 N (xu (storeAt 40 (e 2) t91)) w fun _ w =>
 k e w) (by kernel_rfl) (by intros; kernel_rfl)
def c78_11_s:=@drwE78 c78_11 7 (rO c78_11) b78_7 8 (fun N T M G H Y k e w =>
 T (FrX none w) (xv (fieldAt 40 (e 1) 12)) fun t16 =>
 T (FrX (some []) w) (xv (loadAt 37 t16)) fun t17 =>
 T (FrX none w) (xv (fieldAt 40 (e 3) 10)) fun t18 =>
 N (xu (storeAt 36 t18 (.int .i64 0))) w fun _ w3 =>
 Y true (xv (loadAt 37 t16)) t17 w w3 ∧ (T (FrX none w3) (xv (fieldAt 40 (e 3) 11)) fun t19 =>
 N (xu (storeAt 2 t19 (.int .i64 0))) w3 fun _ w5 =>
 Y true (xv (loadAt 37 t16)) t17 w w5 ∧ (T (FrX none w5) (xv (fieldAt 40 (e 3) 12)) fun t20 =>
 N (xu (storeAt 37 t20 t17)) w5 fun _ w7 =>
 k e w7))) (by kernel_rfl) (by kernel_rfl) (by kernel_rfl) (by intros; kernel_rfl)
def c78_10_s:=@cond78 c78_10 .skip 15 c78_11 (by kernel_rfl) (by kernel_rfl)
def c78_9_s:=@reg78 c78_9 c78_10 6 (rO (cL c78_9)) (fun N M G k e w =>
 N (xv (fieldAt 40 (e 1) 0)) w fun t13 w =>
 N (xv (loadAt 3 t13)) w fun t14 w =>
 N (xv (xbin .eql 3 (.tmp 14) (.const (.int .i64 2)) t14 (.int .i64 2))) w fun t15 w =>
 k (Env.p e 15 t15) w) (by kernel_rfl) (by intros; kernel_rfl)
def c78_8_s:=@reg78 c78_8 c78_9 5 (rO (cL c78_8)) (fun N M G k e w =>
 N (xv (fieldAt 40 (e 3) 3)) w fun t10 w =>
 N (xu (storeAt 3 t10 (.int .i64 0))) w fun _ w =>
 N (xv (fieldAt 40 (e 3) 5)) w fun t11 w =>
 N (xu (storeAt 3 t11 (.int .i64 0))) w fun _ w =>
 N (xv (fieldAt 40 (e 3) 12)) w fun t12 w =>
 N (xu (storeAt 37 t12 (.slice none 0 0))) w fun _ w =>
 k e w) (by kernel_rfl) (by intros; kernel_rfl)
def c78_17_s:=@rend78 c78_17 12 (rO c78_17) (fun N M G k e w =>
 N (xv (fieldAt 40 (e 3) 1)) w fun t32 w =>
 N (xu (storeAt 3 t32 (.int .i64 0))) w fun _ w =>
 k e w) (by kernel_rfl) (by intros; kernel_rfl)
def c78_16_s:=@cond78 c78_16 .skip 31 c78_17 (by kernel_rfl) (by kernel_rfl)
def c78_15_s:=@reg78 c78_15 c78_16 11 (rO (cL c78_15)) (fun N M G k e w =>
 N (xv (fieldAt 40 (e 1) 0)) w fun t29 w =>
 N (xv (loadAt 3 t29)) w fun t30 w =>
 N (xv (xbin .eql 3 (.tmp 30) (.const (.int .i64 3)) t30 (.int .i64 3))) w fun t31 w =>
 k (Env.p e 31 t31) w) (by kernel_rfl) (by intros; kernel_rfl)
def c78_14_s:=@reg78 c78_14 c78_15 10 (rO (cL c78_14)) (fun N M G k e w =>
 N (xv (Instr.build 33 ([]).toArray)) w fun t24 w =>
 N (xv (fieldAt 40 (e 3) 4)) w fun t25 w =>
 N (xu (storeAt 3 t25 (.int .i64 0))) w fun _ w =>
 N (xv (fieldAt 40 (e 3) 5)) w fun t26 w =>
 N (xu (storeAt 3 t26 (.int .i64 0))) w fun _ w =>
 N (xv (fieldAt 40 (e 3) 6)) w fun t27 w =>
 N (xu (storeAt 9 t27 (.string ⟨#[]⟩))) w fun _ w =>
 N (xv (fieldAt 40 (e 3) 7)) w fun t28 w =>
 N (xu (storeAt 33 t28 t24)) w fun _ w =>
 k e w) (by kernel_rfl) (by intros; kernel_rfl)
def c78_24_s:=@rend78 c78_24 20 (rO c78_24) (fun N M G k e w =>
 N (xv (Instr.build 35 ([]).toArray)) w fun t60 w =>
 N (xv (Instr.build 33 ([]).toArray)) w fun t61 w =>
 N (xv (fieldAt 40 (e 3) 8)) w fun t62 w =>
 N (xu (storeAt 35 t62 t60)) w fun _ w =>
 N (xv (fieldAt 40 (e 3) 7)) w fun t63 w =>
 N (xu (storeAt 33 t63 t61)) w fun _ w =>
 k e w) (by kernel_rfl) (by intros; kernel_rfl)
def c78_23_s:=@cond78 c78_23 .skip 59 c78_24 (by kernel_rfl) (by kernel_rfl)
def c78_22_s:=@reg78 c78_22 c78_23 19 (rO (cL c78_22)) (fun N M G k e w =>
 N (xv (fieldAt 40 (e 1) 9)) w fun t43 w =>
 N (xv (loadAt 4 t43)) w fun t44 w =>
 M t44 fun t45 =>
 G (isB t45 true) (fun K => N (xv (fieldAt 40 (e 1) 0)) w K) (fun t46 w =>
 G (isB t45 true) (fun K => N (xv (loadAt 3 t46)) w K) (fun t47 w =>
 G (isB t45 true) (fun K => N (xv (xbin .eql 3 (.tmp 47) (.const (.int .i64 4)) t47 (.int .i64 4))) w K) (fun t48 w =>
 N (xpick t45 t48 (.bool false)) w fun t49 w =>
 M t49 fun t50 =>
 G (isB t50 false) (fun K => N (xv (fieldAt 40 (e 1) 10)) w K) (fun t51 w =>
 G (isB t50 false) (fun K => N (xv (loadAt 36 t51)) w K) (fun t52 w =>
 G (isB t50 false) (fun K => N (xv (xbin .eql 36 (.tmp 52) (.const (.int .i64 0)) t52 (.int .i64 0))) w K) (fun t53 w =>
 G (isB t50 false) (fun K => M t53 fun v => K v w) (fun t54 w =>
 G (isB t54 true) (fun K => N (xv (fieldAt 40 (e 1) 0)) w K) (fun t55 w =>
 G (isB t54 true) (fun K => N (xv (loadAt 3 t55)) w K) (fun t56 w =>
 G (isB t54 true) (fun K => N (xv (xbin .eql 3 (.tmp 56) (.const (.int .i64 6)) t56 (.int .i64 6))) w K) (fun t57 w =>
 G (isB t50 false) (fun K => N (xpick t54 t57 (.bool false)) w K) (fun t58 w =>
 N (xpick t50 (.bool true) t58) w fun t59 w =>
 k (Env.p e 59 t59) w) w) w) w) w) w) w) w) w) w) w) w) (by kernel_rfl) (by intros; kernel_rfl)
def c78_27_s:=@rend78 c78_27 17 (rO c78_27) (fun N M G k e w =>
 N (xv (fieldAt 40 (e 3) 9)) w fun t41 w =>
 N (xu (storeAt 4 t41 (.bool false))) w fun _ w =>
 k e w) (by kernel_rfl) (by intros; kernel_rfl)
def c78_28_s:=@rend78 c78_28 18 (rO c78_28) (fun N M G k e w =>
 N (xv (fieldAt 40 (e 3) 10)) w fun t42 w =>
 N (xu (storeAt 36 t42 (.int .i64 0))) w fun _ w =>
 k e w) (by kernel_rfl) (by intros; kernel_rfl)
def c78_26_s:=@cond78 c78_26 c78_28 40 c78_27 (by kernel_rfl) (by kernel_rfl)
def c78_25_s:=@reg78 c78_25 c78_26 16 (rO (cL c78_25)) (fun N M G k e w =>
 N (xv (fieldAt 40 (e 1) 0)) w fun t38 w =>
 N (xv (loadAt 3 t38)) w fun t39 w =>
 N (xv (xbin .eql 3 (.tmp 39) (.const (.int .i64 4)) t39 (.int .i64 4))) w fun t40 w =>
 k (Env.p e 40 t40) w) (by kernel_rfl) (by intros; kernel_rfl)
def c78_21_s:=@seq78 c78_21 c78_22 c78_25 (by kernel_rfl)
def c78_20_s:=@reg78 c78_20 c78_21 15 (rO (cL c78_20)) (fun N M G k e w =>
 N (xv (fieldAt 40 (e 3) 4)) w fun t36 w =>
 N (xu (storeAt 3 t36 (.int .i64 0))) w fun _ w =>
 N (xv (fieldAt 40 (e 3) 5)) w fun t37 w =>
 N (xu (storeAt 3 t37 (.int .i64 0))) w fun _ w =>
 k e w) (by kernel_rfl) (by intros; kernel_rfl)
def c78_31_s:=@rend78 c78_31 22 (rO c78_31) (fun N M G k e w =>
 N (xv (Instr.build 35 ([]).toArray)) w fun t66 w =>
 N (xv (Instr.build 33 ([]).toArray)) w fun t67 w =>
 N (xv (fieldAt 40 (e 3) 1)) w fun t68 w =>
 N (xu (storeAt 3 t68 (.int .i64 0))) w fun _ w =>
 N (xv (fieldAt 40 (e 3) 6)) w fun t69 w =>
 N (xu (storeAt 9 t69 (.string ⟨#[]⟩))) w fun _ w =>
 N (xv (fieldAt 40 (e 3) 8)) w fun t70 w =>
 N (xu (storeAt 35 t70 t66)) w fun _ w =>
 N (xv (fieldAt 40 (e 3) 7)) w fun t71 w =>
 N (xu (storeAt 33 t71 t67)) w fun _ w =>
 N (xv (fieldAt 40 (e 3) 11)) w fun t72 w =>
 N (xu (storeAt 2 t72 (.int .i64 0))) w fun _ w =>
 k e w) (by kernel_rfl) (by intros; kernel_rfl)
def c78_39_s:=@rend78 c78_39 33 (rO c78_39) (fun N M G k e w =>
 N (xv (fieldAt 40 (e 3) 2)) w fun t90 w =>
 N (xu (storeAt 3 t90 (.int .i64 0))) w fun _ w =>
 k e w) (by kernel_rfl) (by intros; kernel_rfl)
def c78_38_s:=@cond78 c78_38 .skip 89 c78_39 (by kernel_rfl) (by kernel_rfl)
def c78_37_s:=@reg78 c78_37 c78_38 32 (rO (cL c78_37)) (fun N M G k e w =>
 N (xv (fieldAt 40 (e 1) 0)) w fun t87 w =>
 N (xv (loadAt 3 t87)) w fun t88 w =>
 N (xv (xbin .geq 3 (.tmp 88) (.const (.int .i64 10)) t88 (.int .i64 10))) w fun t89 w =>
 k (Env.p e 89 t89) w) (by kernel_rfl) (by intros; kernel_rfl)
def c78_42_s:=@rend78 c78_42 31 (rO c78_42) (fun N M G k e w =>
 N (xv (fieldAt 40 (e 3) 13)) w fun t86 w =>
 N (xu (storeAt 38 t86 (.slice none 0 0))) w fun _ w =>
 k e w) (by kernel_rfl) (by intros; kernel_rfl)
def c78_41_s:=@cond78 c78_41 .skip 85 c78_42 (by kernel_rfl) (by kernel_rfl)
def c78_40_s:=@reg78 c78_40 c78_41 30 (rO (cL c78_40)) (fun N M G k e w =>
 N (xv (fieldAt 40 (e 1) 0)) w fun t83 w =>
 N (xv (loadAt 3 t83)) w fun t84 w =>
 N (xv (xbin .eql 3 (.tmp 84) (.const (.int .i64 8)) t84 (.int .i64 8))) w fun t85 w =>
 k (Env.p e 85 t85) w) (by kernel_rfl) (by intros; kernel_rfl)
def c78_36_s:=@seq78 c78_36 c78_37 c78_40 (by kernel_rfl)
def c78_45_s:=@rend78 c78_45 29 (rO c78_45) (fun N M G k e w =>
 N (xv (fieldAt 40 (e 3) 11)) w fun t82 w =>
 N (xu (storeAt 2 t82 (.int .i64 0))) w fun _ w =>
 k e w) (by kernel_rfl) (by intros; kernel_rfl)
def c78_44_s:=@cond78 c78_44 .skip 81 c78_45 (by kernel_rfl) (by kernel_rfl)
def c78_43_s:=@reg78 c78_43 c78_44 28 (rO (cL c78_43)) (fun N M G k e w =>
 N (xv (fieldAt 40 (e 1) 0)) w fun t79 w =>
 N (xv (loadAt 3 t79)) w fun t80 w =>
 N (xv (xbin .neq 3 (.tmp 80) (.const (.int .i64 10)) t80 (.int .i64 10))) w fun t81 w =>
 k (Env.p e 81 t81) w) (by kernel_rfl) (by intros; kernel_rfl)
def c78_35_s:=@seq78 c78_35 c78_36 c78_43 (by kernel_rfl)
def c78_34_s:=@reg78 c78_34 c78_35 27 (rO (cL c78_34)) (fun N M G k e w =>
 N (xv (fieldAt 40 (e 3) 1)) w fun t78 w =>
 N (xu (storeAt 3 t78 (.int .i64 0))) w fun _ w =>
 k e w) (by kernel_rfl) (by intros; kernel_rfl)
def c78_33_s:=@cond78 c78_33 .skip 73 c78_34 (by kernel_rfl) (by kernel_rfl)
def c78_52_s:=@rend78 c78_52 26 (rO c78_52) (fun N M G k e w =>
 N (xv (xbin .eql 3 (.tmp 6) (.const (.int .i64 11)) (e 6) (.int .i64 11))) w fun t77 w =>
 M t77 fun t73 =>
 k (Env.p e 73 t73) w) (by kernel_rfl) (by intros; kernel_rfl)
def c78_51_s:=@cond78 c78_51 c78_52 73 .skip (by kernel_rfl) (by kernel_rfl)
def c78_50_s:=@reg78 c78_50 c78_51 25 (rO (cL c78_50)) (fun N M G k e w =>
 N (xv (xbin .eql 3 (.tmp 6) (.const (.int .i64 10)) (e 6) (.int .i64 10))) w fun t76 w =>
 M t76 fun t73 =>
 k (Env.p e 73 t73) w) (by kernel_rfl) (by intros; kernel_rfl)
def c78_49_s:=@cond78 c78_49 c78_50 73 .skip (by kernel_rfl) (by kernel_rfl)
def c78_48_s:=@reg78 c78_48 c78_49 24 (rO (cL c78_48)) (fun N M G k e w =>
 N (xv (xbin .eql 3 (.tmp 6) (.const (.int .i64 9)) (e 6) (.int .i64 9))) w fun t75 w =>
 M t75 fun t73 =>
 k (Env.p e 73 t73) w) (by kernel_rfl) (by intros; kernel_rfl)
def c78_47_s:=@cond78 c78_47 c78_48 73 .skip (by kernel_rfl) (by kernel_rfl)
def c78_46_s:=@reg78 c78_46 c78_47 23 (rO (cL c78_46)) (fun N M G k e w =>
 N (xv (xbin .eql 3 (.tmp 6) (.const (.int .i64 8)) (e 6) (.int .i64 8))) w fun t74 w =>
 M t74 fun t73 =>
 k (Env.p e 73 t73) w) (by kernel_rfl) (by intros; kernel_rfl)
def c78_32_s:=@seq78 c78_32 c78_33 c78_46 (by kernel_rfl)
def c78_30_s:=@cond78 c78_30 c78_32 64 c78_31 (by kernel_rfl) (by kernel_rfl)
def c78_29_s:=@reg78 c78_29 c78_30 21 (rO (cL c78_29)) (fun N M G k e w =>
 N (xv (xbin .eql 3 (.tmp 6) (.const (.int .i64 7)) (e 6) (.int .i64 7))) w fun t65 w =>
 M t65 fun t64 =>
 k (Env.p e 64 t64) w) (by kernel_rfl) (by intros; kernel_rfl)
def c78_19_s:=@cond78 c78_19 c78_29 33 c78_20 (by kernel_rfl) (by kernel_rfl)
def c78_55_s:=@rend78 c78_55 14 (rO c78_55) (fun N M G k e w =>
 N (xv (xbin .eql 3 (.tmp 6) (.const (.int .i64 6)) (e 6) (.int .i64 6))) w fun t35 w =>
 M t35 fun t33 =>
 k (Env.p e 33 t33) w) (by kernel_rfl) (by intros; kernel_rfl)
def c78_54_s:=@cond78 c78_54 c78_55 33 .skip (by kernel_rfl) (by kernel_rfl)
def c78_53_s:=@reg78 c78_53 c78_54 13 (rO (cL c78_53)) (fun N M G k e w =>
 N (xv (xbin .eql 3 (.tmp 6) (.const (.int .i64 4)) (e 6) (.int .i64 4))) w fun t34 w =>
 M t34 fun t33 =>
 k (Env.p e 33 t33) w) (by kernel_rfl) (by intros; kernel_rfl)
def c78_18_s:=@seq78 c78_18 c78_19 c78_53 (by kernel_rfl)
def c78_13_s:=@cond78 c78_13 c78_18 21 c78_14 (by kernel_rfl) (by kernel_rfl)
def c78_58_s:=@rend78 c78_58 9 (rO c78_58) (fun N M G k e w =>
 N (xv (xbin .eql 3 (.tmp 6) (.const (.int .i64 5)) (e 6) (.int .i64 5))) w fun t23 w =>
 M t23 fun t21 =>
 k (Env.p e 21 t21) w) (by kernel_rfl) (by intros; kernel_rfl)
def c78_57_s:=@cond78 c78_57 c78_58 21 .skip (by kernel_rfl) (by kernel_rfl)
def c78_56_s:=@reg78 c78_56 c78_57 8 (rO (cL c78_56)) (fun N M G k e w =>
 N (xv (xbin .eql 3 (.tmp 6) (.const (.int .i64 3)) (e 6) (.int .i64 3))) w fun t22 w =>
 M t22 fun t21 =>
 k (Env.p e 21 t21) w) (by kernel_rfl) (by intros; kernel_rfl)
def c78_12_s:=@seq78 c78_12 c78_13 c78_56 (by kernel_rfl)
def c78_7_s:=@cond78 c78_7 c78_12 7 c78_8 (by kernel_rfl) (by kernel_rfl)
def c78_61_s:=@rend78 c78_61 4 (rO c78_61) (fun N M G k e w =>
 N (xv (xbin .eql 3 (.tmp 6) (.const (.int .i64 2)) (e 6) (.int .i64 2))) w fun t9 w =>
 M t9 fun t7 =>
 k (Env.p e 7 t7) w) (by kernel_rfl) (by intros; kernel_rfl)
def c78_60_s:=@cond78 c78_60 c78_61 7 .skip (by kernel_rfl) (by kernel_rfl)
def c78_59_s:=@reg78 c78_59 c78_60 3 (rO (cL c78_59)) (fun N M G k e w =>
 N (xv (xbin .eql 3 (.tmp 6) (.const (.int .i64 1)) (e 6) (.int .i64 1))) w fun t8 w =>
 M t8 fun t7 =>
 k (Env.p e 7 t7) w) (by kernel_rfl) (by intros; kernel_rfl)
def c78_6_s:=@seq78 c78_6 c78_7 c78_59 (by kernel_rfl)
def c78_5_s:=@block78 c78_5 c78_6 0 (by kernel_rfl)
def c78_4_s:=@reg78 c78_4 c78_5 2 (rO (cL c78_4)) (fun N M G k e w =>
 N (xv (fieldAt 40 (e 1) 0)) w fun t5 w =>
 N (xv (loadAt 3 t5)) w fun t6 w =>
 k (Env.p e 6 t6) w) (by kernel_rfl) (by intros; kernel_rfl)
def c78_2_s:=@seq78 c78_2 c78_3 c78_4 (by kernel_rfl)
def c78_1_s:=@reg78 c78_1 c78_2 1 (rO (cL c78_1)) (fun N M G k e w =>
 N (xv (loadAt 40 (e 1))) w fun t4 w =>
 N (xv (Instr.alloc 40 true (.tuple #[]))) w fun t3 w =>
 N (xu (storeAt 40 t3 t4)) w fun _ w =>
 k (Env.p e 3 t3) w) (by kernel_rfl) (by intros; kernel_rfl)
def c78_s:=@reg78 c78 c78_1 0 (rO (cL c78)) (fun N M G k e w =>
 N (xv (Instr.box 40 (e 0))) w fun t1 w =>
 N (xv (Instr.alloc 40 true (.tuple #[]))) w fun t2 w =>
 k (Env.p (Env.p e 1 t1) 2 t2) w) (by kernel_rfl) (by intros; kernel_rfl)
theorem call78 {a0 : Value} {w : World} {R : Value → World → Prop} (h : W3 Tryz.prog 92 V78 c78 (retQ Tryz.prog [.cell 2 40] R) (argE [a0]) w) : CallsN Tryz.prog 78 [a0] w R :=
 callsN_of_W3 (c := c78) (rs := [.cell 2 40]) V78 Tryz.ntmps78 (by rw [Tryz.results78]) mixed Tryz.func78 (by kernel_rfl) (by kernel_rfl) (by kernel_rfl) (by kernel_rfl) (by simp) h
def w3t_78:=w3t Tryz.prog 92 V78
def hk78 := aI @c78_3_s <| aI @c78_11_s <| aI @c78_10_s <| aI @c78_9_s <| aI @c78_8_s <| aI @c78_17_s <| aI @c78_16_s <| aI @c78_15_s <| aI @c78_14_s <| aI @c78_24_s <| aI @c78_23_s <| aI @c78_22_s <| aI @c78_27_s <| aI @c78_28_s <| aI @c78_26_s <| aI @c78_25_s <| aI @c78_21_s <| aI @c78_20_s <| aI @c78_31_s <| aI @c78_39_s <| aI @c78_38_s <| aI @c78_37_s <| aI @c78_42_s <| aI @c78_41_s <| aI @c78_40_s <| aI @c78_36_s <| aI @c78_45_s <| aI @c78_44_s <| aI @c78_43_s <| aI @c78_35_s <| aI @c78_34_s <| aI @c78_33_s <| aI @c78_52_s <| aI @c78_51_s <| aI @c78_50_s <| aI @c78_49_s <| aI @c78_48_s <| aI @c78_47_s <| aI @c78_46_s <| aI @c78_32_s <| aI @c78_30_s <| aI @c78_29_s <| aI @c78_19_s <| aI @c78_55_s <| aI @c78_54_s <| aI @c78_53_s <| aI @c78_18_s <| aI @c78_13_s <| aI @c78_58_s <| aI @c78_57_s <| aI @c78_56_s <| aI @c78_12_s <| aI @c78_7_s <| aI @c78_61_s <| aI @c78_60_s <| aI @c78_59_s <| aI @c78_6_s <| aI @c78_5_s <| aI @c78_4_s <| aI @c78_2_s <| aI @c78_1_s <| aI @c78_s <| @w3t_78
-- K78: ↓hk78
/-! ### vouch/codec.between -/
def V79 : Nat → Bool := fun i => [0, 1, 2, 6].elem i
def reg79:=@s_reg Tryz.prog 15 V79
noncomputable def c79:Code:=(Tryz.f79.body.getD .skip)
noncomputable def c79_1:=cR c79
def c79_1_s:=@reg79 c79_1 .ret 1 (rO (cL c79_1)) (fun N M G k e w =>
 M (e 1) fun t7 =>
 M (e 0) fun t8 =>
 N (xv (xbin .leq 2 (.tmp 7) (.tmp 8) t7 t8)) w fun t9 w =>
 M t9 fun t10 =>
 G (isB t10 true) (fun K => M (e 0) fun v => K v w) (fun t11 w =>
 G (isB t10 true) (fun K => M (e 2) fun v => K v w) (fun t12 w =>
 G (isB t10 true) (fun K => N (xv (xbin .leq 2 (.tmp 11) (.tmp 12) t11 t12)) w K) (fun t13 w =>
 N (xpick t10 t13 (.bool false)) w fun t14 w =>
 M t14 fun t6 =>
 k (Env.p e 6 t6) w) w) w) w) (by kernel_rfl) (by intros; kernel_rfl)
def c79_s:=@reg79 c79 c79_1 0 (rO (cL c79)) (fun N M G k e w =>
 M (.bool false) fun t6 =>
 k (Env.p e 6 t6) w) (by kernel_rfl) (by intros; kernel_rfl)
theorem call79 {a0 a1 a2 : Value} {w : World} {R : Value → World → Prop} (h : W3 Tryz.prog 15 V79 c79 (retQ Tryz.prog [.tmp 6] R) (argE [a0, a1, a2]) w) : CallsN Tryz.prog 79 [a0, a1, a2] w R :=
 callsN_of_W3 (c := c79) (rs := [.tmp 6]) V79 Tryz.ntmps79 (by rw [Tryz.results79]) mixed Tryz.func79 (by kernel_rfl) (by kernel_rfl) (by kernel_rfl) (by kernel_rfl) (by simp) h
def w3t_79:=w3t Tryz.prog 15 V79
def hk79 := aI @c79_1_s <| aI @c79_s <| @w3t_79
-- K79: ↓hk79
/-! ### vouch/codec.goodKey -/
def V81 : Nat → Bool := fun i => [0, 2].elem i
def reg81:=@s_reg Tryz.prog 6 V81
noncomputable def c81:Code:=(Tryz.f81.body.getD .skip)
noncomputable def c81_1:=cR c81
def c81_1_s:=@reg81 c81_1 .ret 1 (rO (cL c81_1)) (fun N M G k e w =>
 M (e 0) fun t3 =>
 N (xv (Instr.build 57 ([(0, t3), (3, (.int .i64 1))]).toArray)) w fun t4 w =>
 N (xcall (.func (.func 96) #[] #[]) [t4]) w fun t5 w =>
 M t5 fun t2 =>
 k (Env.p e 2 t2) w) (by kernel_rfl) (by intros; kernel_rfl)
def c81_s:=@reg81 c81 c81_1 0 (rO (cL c81)) (fun N M G k e w =>
 M (.bool false) fun t2 =>
 k (Env.p e 2 t2) w) (by kernel_rfl) (by intros; kernel_rfl)
theorem call81 {a0 : Value} {w : World} {R : Value → World → Prop} (h : W3 Tryz.prog 6 V81 c81 (retQ Tryz.prog [.tmp 2] R) (argE [a0]) w) : CallsN Tryz.prog 81 [a0] w R :=
 callsN_of_W3 (c := c81) (rs := [.tmp 2]) V81 Tryz.ntmps81 (by rw [Tryz.results81]) mixed Tryz.func81 (by kernel_rfl) (by kernel_rfl) (by kernel_rfl) (by kernel_rfl) (by simp) h
def w3t_81:=w3t Tryz.prog 6 V81
def hk81 := aI @c81_1_s <| aI @c81_s <| @w3t_81
-- K81: ↓hk81
/-! ### vouch/codec.goodValue -/
def V82 : Nat → Bool := fun i => [0, 1, 2].elem i
def reg82:=@s_reg Tryz.prog 6 V82
noncomputable def c82:Code:=(Tryz.f82.body.getD .skip)
noncomputable def c82_1:=cR c82
def c82_1_s:=@reg82 c82_1 .ret 1 (rO (cL c82_1)) (fun N M G k e w =>
 N (xv (loadAt 35 (e 1))) w fun t3 w =>
 N (xv (Instr.build 57 ([(0, (.string ⟨#[107]⟩)), (1, t3), (3, (.int .i64 1))]).toArray)) w fun t4 w =>
 N (xcall (.func (.func 96) #[] #[]) [t4]) w fun t5 w =>
 M t5 fun t2 =>
 k (Env.p e 2 t2) w) (by kernel_rfl) (by intros; kernel_rfl)
def c82_s:=@reg82 c82 c82_1 0 (rO (cL c82)) (fun N M G k e w =>
 N (xv (Instr.box 35 (e 0))) w fun t1 w =>
 M (.bool false) fun t2 =>
 k (Env.p (Env.p e 1 t1) 2 t2) w) (by kernel_rfl) (by intros; kernel_rfl)
theorem call82 {a0 : Value} {w : World} {R : Value → World → Prop} (h : W3 Tryz.prog 6 V82 c82 (retQ Tryz.prog [.tmp 2] R) (argE [a0]) w) : CallsN Tryz.prog 82 [a0] w R :=
 callsN_of_W3 (c := c82) (rs := [.tmp 2]) V82 Tryz.ntmps82 (by rw [Tryz.results82]) mixed Tryz.func82 (by kernel_rfl) (by kernel_rfl) (by kernel_rfl) (by kernel_rfl) (by simp) h
def w3t_82:=w3t Tryz.prog 6 V82
def hk82 := aI @c82_1_s <| aI @c82_s <| @w3t_82
-- K82: ↓hk82
/-! ### vouch/codec.goodPin -/
def V84 : Nat → Bool := fun i => [0, 1, 2].elem i
def reg84:=@s_reg Tryz.prog 9 V84
noncomputable def c84:Code:=(Tryz.f84.body.getD .skip)
noncomputable def c84_1:=cR c84
def c84_1_s:=@reg84 c84_1 .ret 1 (rO (cL c84_1)) (fun N M G k e w =>
 N (xv (fieldAt 33 (e 1) 0)) w fun t3 w =>
 N (xv (loadAt 2 t3)) w fun t4 w =>
 N (xv (fieldAt 33 (e 1) 1)) w fun t5 w =>
 N (xv (loadAt 2 t5)) w fun t6 w =>
 N (xv (Instr.build 57 ([(0, (.string ⟨#[107]⟩)), (2, t4), (3, t6)]).toArray)) w fun t7 w =>
 N (xcall (.func (.func 96) #[] #[]) [t7]) w fun t8 w =>
 M t8 fun t2 =>
 k (Env.p e 2 t2) w) (by kernel_rfl) (by intros; kernel_rfl)
def c84_s:=@reg84 c84 c84_1 0 (rO (cL c84)) (fun N M G k e w =>
 N (xv (Instr.box 33 (e 0))) w fun t1 w =>
 M (.bool false) fun t2 =>
 k (Env.p (Env.p e 1 t1) 2 t2) w) (by kernel_rfl) (by intros; kernel_rfl)
theorem call84 {a0 : Value} {w : World} {R : Value → World → Prop} (h : W3 Tryz.prog 9 V84 c84 (retQ Tryz.prog [.tmp 2] R) (argE [a0]) w) : CallsN Tryz.prog 84 [a0] w R :=
 callsN_of_W3 (c := c84) (rs := [.tmp 2]) V84 Tryz.ntmps84 (by rw [Tryz.results84]) mixed Tryz.func84 (by kernel_rfl) (by kernel_rfl) (by kernel_rfl) (by kernel_rfl) (by simp) h
def w3t_84:=w3t Tryz.prog 9 V84
def hk84 := aI @c84_1_s <| aI @c84_s <| @w3t_84
-- K84: ↓hk84
/-! ### slices.ContainsFunc[[]vouch/api.Write,vouch/api.Write] -/
def V83 : Nat → Bool := fun i => [0, 1, 4].elem i
def reg83:=@s_reg Tryz.prog 9 V83
noncomputable def c83:Code:=(Tryz.f83.body.getD .skip)
noncomputable def c83_1:=cR c83
def c83_1_s:=@reg83 c83_1 .ret 1 (rO (cL c83_1)) (fun N M G k e w =>
 M (e 0) fun t5 =>
 M (e 1) fun t6 =>
 N (xcall (.func (.func 97) #[] #[]) [t5, t6]) w fun t7 w =>
 N (xv (xbin .geq 3 (.tmp 7) (.const (.int .i64 0)) t7 (.int .i64 0))) w fun t8 w =>
 M t8 fun t4 =>
 k (Env.p e 4 t4) w) (by kernel_rfl) (by intros; kernel_rfl)
def c83_s:=@reg83 c83 c83_1 0 (rO (cL c83)) (fun N M G k e w =>
 M (.bool false) fun t4 =>
 k (Env.p e 4 t4) w) (by kernel_rfl) (by intros; kernel_rfl)
theorem call83 {a0 a1 : Value} {w : World} {R : Value → World → Prop} (h : W3 Tryz.prog 9 V83 c83 (retQ Tryz.prog [.tmp 4] R) (argE [a0, a1]) w) : CallsN Tryz.prog 83 [a0, a1] w R :=
 callsN_of_W3 (c := c83) (rs := [.tmp 4]) V83 Tryz.ntmps83 (by rw [Tryz.results83]) mixed Tryz.func83 (by kernel_rfl) (by kernel_rfl) (by kernel_rfl) (by kernel_rfl) (by simp) h
def w3t_83:=w3t Tryz.prog 9 V83
def hk83 := aI @c83_1_s <| aI @c83_s <| @w3t_83
-- K83: ↓hk83
/-! ### slices.IndexFunc[[]vouch/api.Write,vouch/api.Write] -/
def V97 : Nat → Bool := fun i => [0, 1, 4, 5, 7, 8, 9, 16].elem i
def block97:=@s_block Tryz.prog 19 V97
def cond97:=@s_cond Tryz.prog 19 V97
def loop97:=@s_loop Tryz.prog 19 V97
def reg97:=@s_reg Tryz.prog 19 V97
def rend97:=@s_rend Tryz.prog 19 V97
def seq97:=@s_seq Tryz.prog 19 V97
noncomputable def c97:Code:=(Tryz.f97.body.getD .skip)
noncomputable def c97_1:=cR c97
noncomputable def c97_2:=cR c97_1
noncomputable def c97_3:=cL c97_1
noncomputable def c97_4:=cR c97_3
noncomputable def c97_5:=cL c97_4
noncomputable def c97_6:=cL c97_5
noncomputable def c97_7:=cR c97_6
noncomputable def c97_8:=cR c97_7
noncomputable def c97_9:=cR c97_8
noncomputable def c97_10:=cL c97_8
noncomputable def c97_11:=cL c97_10
noncomputable def c97_12:=cR c97_11
noncomputable def c97_13:=cR c97_12
noncomputable def c97_14:=cL c97_13
noncomputable def c97_15:=cL c97_7
def c97_2_s:=@reg97 c97_2 .ret 7 (rO (cL c97_2)) (fun N M G k e w =>
 M (.int .i64 (-1)) fun t4 =>
 k (Env.p e 4 t4) w) (by kernel_rfl) (by intros; kernel_rfl)
def c97_9_s:=@rend97 c97_9 6 (rO c97_9) (fun N M G k e w =>
 N (xv (xbin .add 3 (.tmp 8) (.const (.int .i64 1)) (e 8) (.int .i64 1))) w fun t18 w =>
 M t18 fun t8 =>
 k (Env.p e 8 t8) w) (by kernel_rfl) (by intros; kernel_rfl)
def c97_14_s:=@reg97 c97_14 .ret 5 (rO (cL c97_14)) (fun N M G k e w =>
 M (e 5) fun t17 =>
 M t17 fun t4 =>
 k (Env.p e 4 t4) w) (by kernel_rfl) (by intros; kernel_rfl)
def c97_13_s:=@cond97 c97_13 .skip 16 c97_14 (by kernel_rfl) (by kernel_rfl)
def c97_12_s:=@reg97 c97_12 c97_13 4 (rO (cL c97_12)) (fun N M G k e w =>
 M (e 1) fun t11 =>
 M (e 0) fun t12 =>
 M (e 5) fun t13 =>
 N (xv (indexAt 37 t12 t13)) w fun t14 w =>
 N (xv (loadAt 66 t14)) w fun t15 w =>
 N (xcall t11 [t15]) w fun t16 w =>
 k (Env.p e 16 t16) w) (by kernel_rfl) (by intros; kernel_rfl)
def c97_11_s:=@reg97 c97_11 c97_12 3 (rO (cL c97_11)) (fun N M G k e w =>
 M (e 8) fun t10 =>
 M t10 fun t5 =>
 k (Env.p e 5 t5) w) (by kernel_rfl) (by intros; kernel_rfl)
def c97_10_s:=@block97 c97_10 c97_11 1 (by kernel_rfl)
def c97_8_s:=@seq97 c97_8 c97_9 c97_10 (by kernel_rfl)
def c97_15_s:=@cond97 c97_15 (.exit 0) 9 .skip (by kernel_rfl) (by kernel_rfl)
def c97_7_s:=@seq97 c97_7 c97_8 c97_15 (by kernel_rfl)
def c97_6_s:=@reg97 c97_6 c97_7 2 (rO (cL c97_6)) (fun N M G k e w =>
 N (xv (xbin .lss 3 (.tmp 8) (.tmp 7) (e 8) (e 7))) w fun t9 w =>
 k (Env.p e 9 t9) w) (by kernel_rfl) (by intros; kernel_rfl)
def c97_5_s:=@loop97 c97_5 c97_6 (by kernel_rfl)
def c97_4_s:=@block97 c97_4 c97_5 0 (by kernel_rfl)
def c97_3_s:=@reg97 c97_3 c97_4 1 (rO (cL c97_3)) (fun N M G k e w =>
 M (e 0) fun t6 =>
 N (builtin Builtin.len #[37] 3 ([false]).toArray ([t6]).toArray) w fun t7 w =>
 M (.int .i64 0) fun t8 =>
 k (Env.p (Env.p e 7 t7) 8 t8) w) (by kernel_rfl) (by intros; kernel_rfl)
def c97_1_s:=@seq97 c97_1 c97_2 c97_3 (by kernel_rfl)
def c97_s:=@reg97 c97 c97_1 0 (rO (cL c97)) (fun N M G k e w =>
 M (.int .i64 0) fun t4 =>
 k (Env.p e 4 t4) w) (by kernel_rfl) (by intros; kernel_rfl)
theorem call97 {a0 a1 : Value} {w : World} {R : Value → World → Prop} (h : W3 Tryz.prog 19 V97 c97 (retQ Tryz.prog [.tmp 4] R) (argE [a0, a1]) w) : CallsN Tryz.prog 97 [a0, a1] w R :=
 callsN_of_W3 (c := c97) (rs := [.tmp 4]) V97 Tryz.ntmps97 (by rw [Tryz.results97]) mixed Tryz.func97 (by kernel_rfl) (by kernel_rfl) (by kernel_rfl) (by kernel_rfl) (by simp) h
def w3t_97:=w3t Tryz.prog 19 V97
def hk97 := aI @c97_2_s <| aI @c97_9_s <| aI @c97_14_s <| aI @c97_13_s <| aI @c97_12_s <| aI @c97_11_s <| aI @c97_10_s <| aI @c97_8_s <| aI @c97_15_s <| aI @c97_7_s <| aI @c97_6_s <| aI @c97_5_s <| aI @c97_4_s <| aI @c97_3_s <| aI @c97_1_s <| aI @c97_s <| @w3t_97
-- K97: ↓hk97
/-! ### slices.ContainsFunc[[]string,string] -/
def V86 : Nat → Bool := fun i => [0, 1, 4].elem i
def reg86:=@s_reg Tryz.prog 9 V86
noncomputable def c86:Code:=(Tryz.f86.body.getD .skip)
noncomputable def c86_1:=cR c86
def c86_1_s:=@reg86 c86_1 .ret 1 (rO (cL c86_1)) (fun N M G k e w =>
 M (e 0) fun t5 =>
 M (e 1) fun t6 =>
 N (xcall (.func (.func 98) #[] #[]) [t5, t6]) w fun t7 w =>
 N (xv (xbin .geq 3 (.tmp 7) (.const (.int .i64 0)) t7 (.int .i64 0))) w fun t8 w =>
 M t8 fun t4 =>
 k (Env.p e 4 t4) w) (by kernel_rfl) (by intros; kernel_rfl)
def c86_s:=@reg86 c86 c86_1 0 (rO (cL c86)) (fun N M G k e w =>
 M (.bool false) fun t4 =>
 k (Env.p e 4 t4) w) (by kernel_rfl) (by intros; kernel_rfl)
theorem call86 {a0 a1 : Value} {w : World} {R : Value → World → Prop} (h : W3 Tryz.prog 9 V86 c86 (retQ Tryz.prog [.tmp 4] R) (argE [a0, a1]) w) : CallsN Tryz.prog 86 [a0, a1] w R :=
 callsN_of_W3 (c := c86) (rs := [.tmp 4]) V86 Tryz.ntmps86 (by rw [Tryz.results86]) mixed Tryz.func86 (by kernel_rfl) (by kernel_rfl) (by kernel_rfl) (by kernel_rfl) (by simp) h
def w3t_86:=w3t Tryz.prog 9 V86
def hk86 := aI @c86_1_s <| aI @c86_s <| @w3t_86
-- K86: ↓hk86
/-! ### slices.IndexFunc[[]string,string] -/
def V98 : Nat → Bool := fun i => [0, 1, 4, 5, 7, 8, 9, 16].elem i
def block98:=@s_block Tryz.prog 19 V98
def cond98:=@s_cond Tryz.prog 19 V98
def loop98:=@s_loop Tryz.prog 19 V98
def reg98:=@s_reg Tryz.prog 19 V98
def rend98:=@s_rend Tryz.prog 19 V98
def seq98:=@s_seq Tryz.prog 19 V98
noncomputable def c98:Code:=(Tryz.f98.body.getD .skip)
noncomputable def c98_1:=cR c98
noncomputable def c98_2:=cR c98_1
noncomputable def c98_3:=cL c98_1
noncomputable def c98_4:=cR c98_3
noncomputable def c98_5:=cL c98_4
noncomputable def c98_6:=cL c98_5
noncomputable def c98_7:=cR c98_6
noncomputable def c98_8:=cR c98_7
noncomputable def c98_9:=cR c98_8
noncomputable def c98_10:=cL c98_8
noncomputable def c98_11:=cL c98_10
noncomputable def c98_12:=cR c98_11
noncomputable def c98_13:=cR c98_12
noncomputable def c98_14:=cL c98_13
noncomputable def c98_15:=cL c98_7
def c98_2_s:=@reg98 c98_2 .ret 7 (rO (cL c98_2)) (fun N M G k e w =>
 M (.int .i64 (-1)) fun t4 =>
 k (Env.p e 4 t4) w) (by kernel_rfl) (by intros; kernel_rfl)
def c98_9_s:=@rend98 c98_9 6 (rO c98_9) (fun N M G k e w =>
 N (xv (xbin .add 3 (.tmp 8) (.const (.int .i64 1)) (e 8) (.int .i64 1))) w fun t18 w =>
 M t18 fun t8 =>
 k (Env.p e 8 t8) w) (by kernel_rfl) (by intros; kernel_rfl)
def c98_14_s:=@reg98 c98_14 .ret 5 (rO (cL c98_14)) (fun N M G k e w =>
 M (e 5) fun t17 =>
 M t17 fun t4 =>
 k (Env.p e 4 t4) w) (by kernel_rfl) (by intros; kernel_rfl)
def c98_13_s:=@cond98 c98_13 .skip 16 c98_14 (by kernel_rfl) (by kernel_rfl)
def c98_12_s:=@reg98 c98_12 c98_13 4 (rO (cL c98_12)) (fun N M G k e w =>
 M (e 1) fun t11 =>
 M (e 0) fun t12 =>
 M (e 5) fun t13 =>
 N (xv (indexAt 38 t12 t13)) w fun t14 w =>
 N (xv (loadAt 9 t14)) w fun t15 w =>
 N (xcall t11 [t15]) w fun t16 w =>
 k (Env.p e 16 t16) w) (by kernel_rfl) (by intros; kernel_rfl)
def c98_11_s:=@reg98 c98_11 c98_12 3 (rO (cL c98_11)) (fun N M G k e w =>
 M (e 8) fun t10 =>
 M t10 fun t5 =>
 k (Env.p e 5 t5) w) (by kernel_rfl) (by intros; kernel_rfl)
def c98_10_s:=@block98 c98_10 c98_11 1 (by kernel_rfl)
def c98_8_s:=@seq98 c98_8 c98_9 c98_10 (by kernel_rfl)
def c98_15_s:=@cond98 c98_15 (.exit 0) 9 .skip (by kernel_rfl) (by kernel_rfl)
def c98_7_s:=@seq98 c98_7 c98_8 c98_15 (by kernel_rfl)
def c98_6_s:=@reg98 c98_6 c98_7 2 (rO (cL c98_6)) (fun N M G k e w =>
 N (xv (xbin .lss 3 (.tmp 8) (.tmp 7) (e 8) (e 7))) w fun t9 w =>
 k (Env.p e 9 t9) w) (by kernel_rfl) (by intros; kernel_rfl)
def c98_5_s:=@loop98 c98_5 c98_6 (by kernel_rfl)
def c98_4_s:=@block98 c98_4 c98_5 0 (by kernel_rfl)
def c98_3_s:=@reg98 c98_3 c98_4 1 (rO (cL c98_3)) (fun N M G k e w =>
 M (e 0) fun t6 =>
 N (builtin Builtin.len #[38] 3 ([false]).toArray ([t6]).toArray) w fun t7 w =>
 M (.int .i64 0) fun t8 =>
 k (Env.p (Env.p e 7 t7) 8 t8) w) (by kernel_rfl) (by intros; kernel_rfl)
def c98_1_s:=@seq98 c98_1 c98_2 c98_3 (by kernel_rfl)
def c98_s:=@reg98 c98 c98_1 0 (rO (cL c98)) (fun N M G k e w =>
 M (.int .i64 0) fun t4 =>
 k (Env.p e 4 t4) w) (by kernel_rfl) (by intros; kernel_rfl)
theorem call98 {a0 a1 : Value} {w : World} {R : Value → World → Prop} (h : W3 Tryz.prog 19 V98 c98 (retQ Tryz.prog [.tmp 4] R) (argE [a0, a1]) w) : CallsN Tryz.prog 98 [a0, a1] w R :=
 callsN_of_W3 (c := c98) (rs := [.tmp 4]) V98 Tryz.ntmps98 (by rw [Tryz.results98]) mixed Tryz.func98 (by kernel_rfl) (by kernel_rfl) (by kernel_rfl) (by kernel_rfl) (by simp) h
def w3t_98:=w3t Tryz.prog 19 V98
def hk98 := aI @c98_2_s <| aI @c98_9_s <| aI @c98_14_s <| aI @c98_13_s <| aI @c98_12_s <| aI @c98_11_s <| aI @c98_10_s <| aI @c98_8_s <| aI @c98_15_s <| aI @c98_7_s <| aI @c98_6_s <| aI @c98_5_s <| aI @c98_4_s <| aI @c98_3_s <| aI @c98_1_s <| aI @c98_s <| @w3t_98
-- K98: ↓hk98
/-! ### vouch/fact.Good -/
def V96 : Nat → Bool := fun i => [0, 1, 2, 3, 13].elem i
def block96:=@s_block Tryz.prog 56 V96
def cond96:=@s_cond Tryz.prog 56 V96
def reg96:=@s_reg Tryz.prog 56 V96
def seq96:=@s_seq Tryz.prog 56 V96
noncomputable def c96:Code:=(Tryz.f96.body.getD .skip)
noncomputable def c96_1:=cR c96
noncomputable def c96_2:=cR c96_1
noncomputable def c96_3:=cL c96_1
noncomputable def c96_4:=cL c96_3
noncomputable def c96_5:=cR c96_4
noncomputable def c96_6:=cL c96_5
noncomputable def c96_7:=cR c96_5
noncomputable def c96_8:=cR c96_7
noncomputable def c96_9:=cL c96_8
def c96_2_s:=@reg96 c96_2 .ret 5 (rO (cL c96_2)) (fun N M G k e w =>
 N (xv (fieldAt 57 (e 1) 2)) w fun t31 w =>
 N (xv (loadAt 2 t31)) w fun t32 w =>
 N (xv (xbin .geq 2 (.tmp 32) (.const (.int .i64 0)) t32 (.int .i64 0))) w fun t33 w =>
 M t33 fun t34 =>
 G (isB t34 true) (fun K => N (xv (fieldAt 57 (e 1) 2)) w K) (fun t35 w =>
 G (isB t34 true) (fun K => N (xv (loadAt 2 t35)) w K) (fun t36 w =>
 G (isB t34 true) (fun K => N (xv (xbin .leq 2 (.tmp 36) (.const (.int .i64 1099511627776)) t36 (.int .i64 1099511627776))) w K) (fun t37 w =>
 N (xpick t34 t37 (.bool false)) w fun t38 w =>
 M t38 fun t39 =>
 G (isB t39 true) (fun K => N (xv (fieldAt 57 (e 1) 3)) w K) (fun t40 w =>
 G (isB t39 true) (fun K => N (xv (loadAt 2 t40)) w K) (fun t41 w =>
 G (isB t39 true) (fun K => N (xv (fieldAt 57 (e 1) 2)) w K) (fun t42 w =>
 G (isB t39 true) (fun K => N (xv (loadAt 2 t42)) w K) (fun t43 w =>
 G (isB t39 true) (fun K => N (xv (xbin .gtr 2 (.tmp 41) (.tmp 43) t41 t43)) w K) (fun t44 w =>
 N (xpick t39 t44 (.bool false)) w fun t45 w =>
 M t45 fun t46 =>
 G (isB t46 true) (fun K => N (xv (fieldAt 57 (e 1) 3)) w K) (fun t47 w =>
 G (isB t46 true) (fun K => N (xv (loadAt 2 t47)) w K) (fun t48 w =>
 G (isB t46 true) (fun K => N (xv (xbin .eql 2 (.tmp 48) (.const (.int .i64 4611686018427387904)) t48 (.int .i64 4611686018427387904))) w K) (fun t49 w =>
 G (isB t46 true) (fun K => M t49 fun v => K v w) (fun t50 w =>
 G (isB t50 false) (fun K => N (xv (fieldAt 57 (e 1) 3)) w K) (fun t51 w =>
 G (isB t50 false) (fun K => N (xv (loadAt 2 t51)) w K) (fun t52 w =>
 G (isB t50 false) (fun K => N (xv (xbin .leq 2 (.tmp 52) (.const (.int .i64 1099511627777)) t52 (.int .i64 1099511627777))) w K) (fun t53 w =>
 G (isB t46 true) (fun K => N (xpick t50 (.bool true) t53) w K) (fun t54 w =>
 N (xpick t46 t54 (.bool false)) w fun t55 w =>
 M t55 fun t2 =>
 k (Env.p e 2 t2) w) w) w) w) w) w) w) w) w) w) w) w) w) w) w) w) w) (by kernel_rfl) (by intros; kernel_rfl)
def c96_6_s:=@reg96 c96_6 .ret 2 (rO (cL c96_6)) (fun N M G k e w =>
 M (.bool false) fun t2 =>
 k (Env.p e 2 t2) w) (by kernel_rfl) (by intros; kernel_rfl)
def c96_9_s:=@reg96 c96_9 .ret 4 (rO (cL c96_9)) (fun N M G k e w =>
 M (.bool false) fun t2 =>
 k (Env.p e 2 t2) w) (by kernel_rfl) (by intros; kernel_rfl)
def c96_8_s:=@cond96 c96_8 .skip 13 c96_9 (by kernel_rfl) (by kernel_rfl)
def c96_7_s:=@reg96 c96_7 c96_8 3 (rO (cL c96_7)) (fun N M G k e w =>
 N (xv (fieldAt 57 (e 1) 1)) w fun t14 w =>
 N (xv (fieldAt 35 t14 1)) w fun t15 w =>
 N (xv (loadAt 9 t15)) w fun t16 w =>
 N (builtin Builtin.len #[9] 3 ([false]).toArray ([t16]).toArray) w fun t17 w =>
 N (xv (xbin .gtr 3 (.tmp 17) (.const (.int .i64 256)) t17 (.int .i64 256))) w fun t18 w =>
 M t18 fun t19 =>
 G (isB t19 false) (fun K => N (xv (fieldAt 57 (e 1) 1)) w K) (fun t20 w =>
 G (isB t19 false) (fun K => N (xv (fieldAt 35 t20 0)) w K) (fun t21 w =>
 G (isB t19 false) (fun K => N (xv (loadAt 4 t21)) w K) (fun t22 w =>
 G (isB t19 false) (fun K => N (xv (Op.unary .not t22)) w K) (fun t23 w =>
 G (isB t19 false) (fun K => M t23 fun v => K v w) (fun t24 w =>
 G (isB t24 true) (fun K => N (xv (fieldAt 57 (e 1) 1)) w K) (fun t25 w =>
 G (isB t24 true) (fun K => N (xv (fieldAt 35 t25 1)) w K) (fun t26 w =>
 G (isB t24 true) (fun K => N (xv (loadAt 9 t26)) w K) (fun t27 w =>
 G (isB t24 true) (fun K => N (xv (xbin .neq 9 (.tmp 27) (.const (.string ⟨#[]⟩)) t27 (.string ⟨#[]⟩))) w K) (fun t28 w =>
 G (isB t19 false) (fun K => N (xpick t24 t28 (.bool false)) w K) (fun t29 w =>
 N (xpick t19 (.bool true) t29) w fun t30 w =>
 M t30 fun t13 =>
 k (Env.p e 13 t13) w) w) w) w) w) w) w) w) w) w) w) (by kernel_rfl) (by intros; kernel_rfl)
def c96_5_s:=@cond96 c96_5 c96_7 3 c96_6 (by kernel_rfl) (by kernel_rfl)
def c96_4_s:=@reg96 c96_4 c96_5 1 (rO (cL c96_4)) (fun N M G k e w =>
 N (xv (fieldAt 57 (e 1) 0)) w fun t4 w =>
 N (xv (loadAt 9 t4)) w fun t5 w =>
 N (xv (xbin .eql 9 (.tmp 5) (.const (.string ⟨#[]⟩)) t5 (.string ⟨#[]⟩))) w fun t6 w =>
 M t6 fun t7 =>
 G (isB t7 false) (fun K => N (xv (fieldAt 57 (e 1) 0)) w K) (fun t8 w =>
 G (isB t7 false) (fun K => N (xv (loadAt 9 t8)) w K) (fun t9 w =>
 G (isB t7 false) (fun K => N (builtin Builtin.len #[9] 3 ([false]).toArray ([t9]).toArray) w K) (fun t10 w =>
 G (isB t7 false) (fun K => N (xv (xbin .gtr 3 (.tmp 10) (.const (.int .i64 32)) t10 (.int .i64 32))) w K) (fun t11 w =>
 N (xpick t7 (.bool true) t11) w fun t12 w =>
 M t12 fun t3 =>
 k (Env.p e 3 t3) w) w) w) w) w) (by kernel_rfl) (by intros; kernel_rfl)
def c96_3_s:=@block96 c96_3 c96_4 0 (by kernel_rfl)
def c96_1_s:=@seq96 c96_1 c96_2 c96_3 (by kernel_rfl)
def c96_s:=@reg96 c96 c96_1 0 (rO (cL c96)) (fun N M G k e w =>
 N (xv (Instr.box 57 (e 0))) w fun t1 w =>
 M (.bool false) fun t2 =>
 k (Env.p (Env.p e 1 t1) 2 t2) w) (by kernel_rfl) (by intros; kernel_rfl)
theorem call96 {a0 : Value} {w : World} {R : Value → World → Prop} (h : W3 Tryz.prog 56 V96 c96 (retQ Tryz.prog [.tmp 2] R) (argE [a0]) w) : CallsN Tryz.prog 96 [a0] w R :=
 callsN_of_W3 (c := c96) (rs := [.tmp 2]) V96 Tryz.ntmps96 (by rw [Tryz.results96]) mixed Tryz.func96 (by kernel_rfl) (by kernel_rfl) (by kernel_rfl) (by kernel_rfl) (by simp) h
def w3t_96:=w3t Tryz.prog 56 V96
def hk96 := aI @c96_2_s <| aI @c96_6_s <| aI @c96_9_s <| aI @c96_8_s <| aI @c96_7_s <| aI @c96_5_s <| aI @c96_4_s <| aI @c96_3_s <| aI @c96_1_s <| aI @c96_s <| @w3t_96
-- K96: ↓hk96
end
end Go.Proofs.YtgloomahpjpiiaaGreat
