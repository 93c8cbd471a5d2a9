/- The equations of the code of some functions, written by the printer gen3.py: each is checked by the kernel. -/
import Derived.Test.YtbbjnplellanaaaDoorQ0
import Derived.Test.YtbbjnplellanaaaDoorCI
set_option linter.unusedVariables false
set_option linter.unusedSimpArgs false
set_option maxRecDepth 100000
namespace Go.Proofs.YtbbjnplellanaaaDoor
open Go.VW
open Go.Instr (loadAt storeAt fieldAt indexAt)
noncomputable section
set_option linter.defProp false
variable {N : NT} {T : T3T} {M : MT} {G : GT} {H : HT} {Y : YT} {k : KT} {Q : Exit → Env → World → Prop} {e el eg : Env} {w u0 u1 u2 u3 u4 u5 u6 u7 u8 u9 : World}
/-! ### vouch/vouchlaw21.fixed -/
def V8 : Nat → Bool := fun i => [0, 1, 2, 3, 4, 6, 8, 9].elem i
def reg8:=@s_reg Tryd.prog 76 V8
noncomputable def c8:Code:=(Tryd.f8.body.getD .skip)
noncomputable def c8_1:=cR c8
noncomputable def c8_2:=cR c8_1
noncomputable def c8_3:=cR c8_2
noncomputable def c8_4:=cR c8_3
def c8_4_s:=reg8 c8_4 .ret (fun N M G k e w =>
 M (e 1) fun t27 =>
 N (builtin Builtin.len #[23] 3 ([false]).toArray ([t27]).toArray) w fun t28 w =>
 N (xv (xbin .eql 3 (.tmp 28) (.const (.int .i64 3)) t28 (.int .i64 3))) w fun t29 w =>
 M t29 fun t30 =>
 G (isB t30 true) (fun K => M (e 2) fun v => K v w) (fun t31 w =>
 G (isB t30 true) (fun K => N (xv (xbin .eql 3 (.tmp 31) (.const (.int .i64 0)) t31 (.int .i64 0))) w K) (fun t32 w =>
 N (xpick t30 t32 (.bool false)) w fun t33 w =>
 M t33 fun t34 =>
 G (isB t34 true) (fun K => M (e 3) fun v => K v w) (fun t35 w =>
 G (isB t34 true) (fun K => N (xv (xbin .eql 24 (.tmp 35) (.const (.int .i64 0)) t35 (.int .i64 0))) w K) (fun t36 w =>
 N (xpick t34 t36 (.bool false)) w fun t37 w =>
 M t37 fun t38 =>
 G (isB t38 true) (fun K => M (e 1) fun v => K v w) (fun t39 w =>
 G (isB t38 true) (fun K => N (xv (indexAt 23 t39 (.int .i64 1))) w K) (fun t40 w =>
 G (isB t38 true) (fun K => N (xv (fieldAt 33 t40 0)) w K) (fun t41 w =>
 G (isB t38 true) (fun K => N (xv (loadAt 3 t41)) w K) (fun t42 w =>
 G (isB t38 true) (fun K => N (xv (xbin .eql 3 (.tmp 42) (.const (.int .i64 2)) t42 (.int .i64 2))) w K) (fun t43 w =>
 N (xpick t38 t43 (.bool false)) w fun t44 w =>
 M t44 fun t45 =>
 G (isB t45 true) (fun K => M (e 1) fun v => K v w) (fun t46 w =>
 G (isB t45 true) (fun K => N (xv (indexAt 23 t46 (.int .i64 1))) w K) (fun t47 w =>
 G (isB t45 true) (fun K => N (xv (fieldAt 33 t47 6)) w K) (fun t48 w =>
 G (isB t45 true) (fun K => N (xv (loadAt 31 t48)) w K) (fun t49 w =>
 G (isB t45 true) (fun K => N (builtin Builtin.len #[31] 3 ([false]).toArray ([t49]).toArray) w K) (fun t50 w =>
 G (isB t45 true) (fun K => N (xv (xbin .eql 3 (.tmp 50) (.const (.int .i64 2)) t50 (.int .i64 2))) w K) (fun t51 w =>
 N (xpick t45 t51 (.bool false)) w fun t52 w =>
 M t52 fun t53 =>
 G (isB t53 true) (fun K => M (e 1) fun v => K v w) (fun t54 w =>
 G (isB t53 true) (fun K => N (xv (indexAt 23 t54 (.int .i64 2))) w K) (fun t55 w =>
 G (isB t53 true) (fun K => N (xv (fieldAt 33 t55 2)) w K) (fun t56 w =>
 G (isB t53 true) (fun K => N (xv (loadAt 3 t56)) w K) (fun t57 w =>
 G (isB t53 true) (fun K => N (xv (xbin .eql 3 (.tmp 57) (.const (.int .i64 1)) t57 (.int .i64 1))) w K) (fun t58 w =>
 N (xpick t53 t58 (.bool false)) w fun t59 w =>
 M t59 fun t60 =>
 G (isB t60 true) (fun K => M (e 4) fun v => K v w) (fun t61 w =>
 G (isB t60 true) (fun K => N (xv (xbin .eql 9 (.tmp 61) (.const (.string ⟨#[114, 101, 97, 100, 32, 49, 32, 97, 10]⟩)) t61 (.string ⟨#[114, 101, 97, 100, 32, 49, 32, 97, 10]⟩))) w K) (fun t62 w =>
 N (xpick t60 t62 (.bool false)) w fun t63 w =>
 M t63 fun t64 =>
 G (isB t64 true) (fun K => M (e 6) fun v => K v w) (fun t65 w =>
 G (isB t64 true) (fun K => N (xv (xbin .eql 24 (.tmp 65) (.const (.int .i64 0)) t65 (.int .i64 0))) w K) (fun t66 w =>
 N (xpick t64 t66 (.bool false)) w fun t67 w =>
 M t67 fun t68 =>
 G (isB t68 true) (fun K => M (e 8) fun v => K v w) (fun t69 w =>
 G (isB t68 true) (fun K => N (xv (xbin .eql 3 (.tmp 69) (.const (.int .i64 2)) t69 (.int .i64 2))) w K) (fun t70 w =>
 N (xpick t68 t70 (.bool false)) w fun t71 w =>
 M t71 fun t72 =>
 G (isB t72 true) (fun K => M (e 9) fun v => K v w) (fun t73 w =>
 G (isB t72 true) (fun K => N (xv (xbin .eql 3 (.tmp 73) (.const (.int .i64 60)) t73 (.int .i64 60))) w K) (fun t74 w =>
 N (xpick t72 t74 (.bool false)) w fun t75 w =>
 M t75 fun t0 =>
 k (Env.p e 0 t0) w) w) w) w) w) w) w) w) w) w) w) w) w) w) w) w) w) w) w) w) w) w) w) w) w) w) w) w) w)
def c8_3_s:=reg8 c8_3 c8_4 (fun N M G k e w =>
 N (xcall (.func (.func 9) #[] #[]) [(.string ⟨#[111, 112, 101, 110, 10, 114, 101, 97, 100, 32, 48]⟩)]) w fun t23 w =>
 M t23 fun t22 =>
 N (xv (Instr.extract t22 0)) w fun t24 w =>
 N (xv (Instr.extract t22 1)) w fun t25 w =>
 N (xv (Instr.extract t22 2)) w fun t26 w =>
 M t24 fun t7 =>
 M t25 fun t8 =>
 M t26 fun t9 =>
 k (Env.p (Env.p e 8 t8) 9 t9) w)
def c8_2_s:=reg8 c8_2 c8_3 (fun N M G k e w =>
 N (xv (Instr.build 33 ([(0, (.int .i64 5)), (2, (.int .i64 1)), (5, (.string ⟨#[97]⟩))]).toArray)) w fun t16 w =>
 N (xv (Instr.buildSlice 23 1 ([(0, t16)]).toArray)) w fun t17 w =>
 N (xcall (.func (.func 12) #[] #[]) [t17]) w fun t18 w =>
 M t18 fun t15 =>
 N (xv (Instr.extract t15 0)) w fun t19 w =>
 N (xv (Instr.extract t15 1)) w fun t20 w =>
 N (xv (Instr.extract t15 2)) w fun t21 w =>
 M t19 fun t4 =>
 M t20 fun t5 =>
 M t21 fun t6 =>
 k (Env.p (Env.p e 4 t4) 6 t6) w)
def c8_1_s:=reg8 c8_1 c8_2 (fun N M G k e w =>
 N (xcall (.func (.func 9) #[] #[]) [(.string ⟨#[111, 112, 101, 110, 10, 35, 32, 110, 111, 116, 101, 10, 99, 111, 109, 109, 105, 116, 32, 48, 32, 97, 61, 120, 32, 98, 33, 32, 10, 32, 114, 101, 97, 100, 32, 49, 32, 97]⟩)]) w fun t11 w =>
 M t11 fun t10 =>
 N (xv (Instr.extract t10 0)) w fun t12 w =>
 N (xv (Instr.extract t10 1)) w fun t13 w =>
 N (xv (Instr.extract t10 2)) w fun t14 w =>
 M t12 fun t1 =>
 M t13 fun t2 =>
 M t14 fun t3 =>
 k (Env.p (Env.p (Env.p e 1 t1) 2 t2) 3 t3) w)
def c8_s:=reg8 c8 c8_1 (fun N M G k e w =>
 M (.bool false) fun t0 =>
 k (Env.p e 0 t0) w)
theorem call8 {w : World} {R : Value → World → Prop} (h : W3 Tryd.prog 76 V8 c8 (retQ Tryd.prog [.tmp 0] R) (argE []) w) : CallsN Tryd.prog 8 [] w R :=
 callsN_of_W3 (c := c8) (rs := [.tmp 0]) V8 Tryd.ntmps8 (by rw [Tryd.results8]) mixed Tryd.func8 (by kernel_rfl) (by kernel_rfl) (by kernel_rfl) (by kernel_rfl) (by simp) h
def w3t_8:=w3t Tryd.prog 76 V8
def hk8 := aI @c8_4_s <| aI @c8_3_s <| aI @c8_2_s <| aI @c8_1_s <| aI @c8_s <| @w3t_8
-- K8: ↓hk8
/-! ### vouch/vouchlaw21.ScriptParses -/
def V3 : Nat → Bool := fun i => [0, 2, 3, 4, 5, 6, 7, 8, 10].elem i
def cond3:=@s_cond Tryd.prog 36 V3
def reg3:=@s_reg Tryd.prog 36 V3
def seq3:=@s_seq Tryd.prog 36 V3
noncomputable def c3:Code:=(Tryd.f3.body.getD .skip)
noncomputable def c3_1:=cR c3
noncomputable def c3_2:=cR c3_1
noncomputable def c3_3:=cR c3_2
noncomputable def c3_4:=cR c3_3
noncomputable def c3_5:=cL c3_1
noncomputable def c3_6:=cR c3_5
noncomputable def c3_7:=cL c3_6
def c3_4_s:=reg3 c3_4 .ret (fun N M G k e w =>
 M (e 3) fun t23 =>
 M (e 6) fun t24 =>
 N (xcall (.func (.func 11) #[] #[]) [t23, t24]) w fun t25 w =>
 M t25 fun t26 =>
 G (isB t26 true) (fun K => M (e 4) fun v => K v w) (fun t27 w =>
 G (isB t26 true) (fun K => M (e 7) fun v => K v w) (fun t28 w =>
 G (isB t26 true) (fun K => N (xv (xbin .eql 3 (.tmp 27) (.tmp 28) t27 t28)) w K) (fun t29 w =>
 N (xpick t26 t29 (.bool false)) w fun t30 w =>
 M t30 fun t31 =>
 G (isB t31 true) (fun K => M (e 5) fun v => K v w) (fun t32 w =>
 G (isB t31 true) (fun K => M (e 8) fun v => K v w) (fun t33 w =>
 G (isB t31 true) (fun K => N (xv (xbin .eql 3 (.tmp 32) (.tmp 33) t32 t33)) w K) (fun t34 w =>
 N (xpick t31 t34 (.bool false)) w fun t35 w =>
 M t35 fun t2 =>
 k (Env.p e 2 t2) w) w) w) w) w) w) w)
def c3_3_s:=reg3 c3_3 c3_4 (fun N M G k e w =>
 M (e 0) fun t18 =>
 N (xcall (.func (.func 10) #[] #[]) [t18]) w fun t19 w =>
 M t19 fun t17 =>
 N (xv (Instr.extract t17 0)) w fun t20 w =>
 N (xv (Instr.extract t17 1)) w fun t21 w =>
 N (xv (Instr.extract t17 2)) w fun t22 w =>
 M t20 fun t6 =>
 M t21 fun t7 =>
 M t22 fun t8 =>
 k (Env.p (Env.p (Env.p e 6 t6) 7 t7) 8 t8) w)
def c3_2_s:=reg3 c3_2 c3_3 (fun N M G k e w =>
 M (e 0) fun t12 =>
 N (xcall (.func (.func 9) #[] #[]) [t12]) w fun t13 w =>
 M t13 fun t11 =>
 N (xv (Instr.extract t11 0)) w fun t14 w =>
 N (xv (Instr.extract t11 1)) w fun t15 w =>
 N (xv (Instr.extract t11 2)) w fun t16 w =>
 M t14 fun t3 =>
 M t15 fun t4 =>
 M t16 fun t5 =>
 k (Env.p (Env.p (Env.p e 3 t3) 4 t4) 5 t5) w)
def c3_7_s:=reg3 c3_7 .ret (fun N M G k e w =>
 M (.bool false) fun t2 =>
 k (Env.p e 2 t2) w)
def c3_6_s:=cond3 c3_6 .skip 10 c3_7
def c3_5_s:=reg3 c3_5 c3_6 (fun N M G k e w =>
 N (xcall (.func (.func 8) #[] #[]) []) w fun t9 w =>
 N (xv (Op.unary .not t9)) w fun t10 w =>
 k (Env.p e 10 t10) w)
def c3_1_s:=seq3 c3_1 c3_2 c3_5
def c3_s:=reg3 c3 c3_1 (fun N M G k e w =>
 M (.bool false) fun t2 =>
 k (Env.p e 2 t2) w)
theorem call3 {a0 : Value} {w : World} {R : Value → World → Prop} (h : W3 Tryd.prog 36 V3 c3 (retQ Tryd.prog [.tmp 2] R) (argE [a0]) w) : CallsN Tryd.prog 3 [a0] w R :=
 callsN_of_W3 (c := c3) (rs := [.tmp 2]) V3 Tryd.ntmps3 (by rw [Tryd.results3]) mixed Tryd.func3 (by kernel_rfl) (by kernel_rfl) (by kernel_rfl) (by kernel_rfl) (by simp) h
def w3t_3:=w3t Tryd.prog 36 V3
def hk3 := aI @c3_4_s <| aI @c3_3_s <| aI @c3_2_s <| aI @c3_7_s <| aI @c3_6_s <| aI @c3_5_s <| aI @c3_1_s <| aI @c3_s <| @w3t_3
-- K3: ↓hk3
/-! ### vouch/vouchlaw21.ScriptTexts -/
def V4 : Nat → Bool := fun i => [0, 2, 3, 4, 5, 6, 7, 8, 9, 11].elem i
def cond4:=@s_cond Tryd.prog 63 V4
def reg4:=@s_reg Tryd.prog 63 V4
def seq4:=@s_seq Tryd.prog 63 V4
noncomputable def c4:Code:=(Tryd.f4.body.getD .skip)
noncomputable def c4_1:=cR c4
noncomputable def c4_2:=cR c4_1
noncomputable def c4_3:=cR c4_2
noncomputable def c4_4:=cR c4_3
noncomputable def c4_5:=cR c4_4
noncomputable def c4_6:=cL c4_1
noncomputable def c4_7:=cR c4_6
noncomputable def c4_8:=cL c4_7
def c4_5_s:=reg4 c4_5 .ret (fun N M G k e w =>
 M (e 4) fun t33 =>
 M (e 7) fun t34 =>
 N (xv (xbin .eql 9 (.tmp 33) (.tmp 34) t33 t34)) w fun t35 w =>
 M t35 fun t36 =>
 G (isB t36 true) (fun K => M (e 5) fun v => K v w) (fun t37 w =>
 G (isB t36 true) (fun K => M (e 8) fun v => K v w) (fun t38 w =>
 G (isB t36 true) (fun K => N (xv (xbin .eql 3 (.tmp 37) (.tmp 38) t37 t38)) w K) (fun t39 w =>
 N (xpick t36 t39 (.bool false)) w fun t40 w =>
 M t40 fun t41 =>
 G (isB t41 true) (fun K => M (e 6) fun v => K v w) (fun t42 w =>
 G (isB t41 true) (fun K => M (e 9) fun v => K v w) (fun t43 w =>
 G (isB t41 true) (fun K => N (xv (xbin .eql 3 (.tmp 42) (.tmp 43) t42 t43)) w K) (fun t44 w =>
 N (xpick t41 t44 (.bool false)) w fun t45 w =>
 M t45 fun t46 =>
 G (isB t46 true) (fun K => M (e 3) fun v => K v w) (fun t47 w =>
 G (isB t46 true) (fun K => M (e 0) fun v => K v w) (fun t48 w =>
 G (isB t46 true) (fun K => N (builtin Builtin.len #[23] 3 ([false]).toArray ([t48]).toArray) w K) (fun t49 w =>
 G (isB t46 true) (fun K => N (xv (Instr.sliceAt 23 t47 none (some t49) none)) w K) (fun t50 w =>
 G (isB t46 true) (fun K => M (e 0) fun v => K v w) (fun t51 w =>
 G (isB t46 true) (fun K => N (xcall (.func (.func 11) #[] #[]) [t50, t51]) w K) (fun t52 w =>
 N (xpick t46 t52 (.bool false)) w fun t53 w =>
 M t53 fun t54 =>
 G (isB t54 true) (fun K => M (e 3) fun v => K v w) (fun t55 w =>
 G (isB t54 true) (fun K => M (e 0) fun v => K v w) (fun t56 w =>
 G (isB t54 true) (fun K => N (builtin Builtin.len #[23] 3 ([false]).toArray ([t56]).toArray) w K) (fun t57 w =>
 G (isB t54 true) (fun K => N (xv (indexAt 23 t55 t57)) w K) (fun t58 w =>
 G (isB t54 true) (fun K => N (xv (fieldAt 33 t58 0)) w K) (fun t59 w =>
 G (isB t54 true) (fun K => N (xv (loadAt 3 t59)) w K) (fun t60 w =>
 G (isB t54 true) (fun K => N (xv (xbin .eql 3 (.tmp 60) (.const (.int .i64 99)) t60 (.int .i64 99))) w K) (fun t61 w =>
 N (xpick t54 t61 (.bool false)) w fun t62 w =>
 M t62 fun t2 =>
 k (Env.p e 2 t2) w) w) w) w) w) w) w) w) w) w) w) w) w) w) w) w) w) w) w) w)
def c4_4_s:=reg4 c4_4 c4_5 (fun N M G k e w =>
 M (e 0) fun t28 =>
 N (xcall (.func (.func 13) #[] #[]) [t28]) w fun t29 w =>
 M t29 fun t27 =>
 N (xv (Instr.extract t27 0)) w fun t30 w =>
 N (xv (Instr.extract t27 1)) w fun t31 w =>
 N (xv (Instr.extract t27 2)) w fun t32 w =>
 M t30 fun t7 =>
 M t31 fun t8 =>
 M t32 fun t9 =>
 k (Env.p (Env.p (Env.p e 7 t7) 8 t8) 9 t9) w)
def c4_3_s:=reg4 c4_3 c4_4 (fun N M G k e w =>
 M (e 3) fun t19 =>
 M (e 0) fun t20 =>
 N (builtin Builtin.len #[23] 3 ([false]).toArray ([t20]).toArray) w fun t21 w =>
 N (xv (Instr.sliceAt 23 t19 none (some t21) none)) w fun t22 w =>
 N (xcall (.func (.func 12) #[] #[]) [t22]) w fun t23 w =>
 M t23 fun t18 =>
 N (xv (Instr.extract t18 0)) w fun t24 w =>
 N (xv (Instr.extract t18 1)) w fun t25 w =>
 N (xv (Instr.extract t18 2)) w fun t26 w =>
 M t24 fun t4 =>
 M t25 fun t5 =>
 M t26 fun t6 =>
 k (Env.p (Env.p (Env.p e 4 t4) 5 t5) 6 t6) w)
def c4_2_s:=reg4 c4_2 c4_3 (fun N M G k e w =>
 N (xv (Instr.buildSlice 23 0 ([]).toArray)) w fun t12 w =>
 M (e 0) fun t13 =>
 N (builtin Builtin.append #[23, 23] 23 ([false, false]).toArray ([t12, t13]).toArray) w fun t14 w =>
 N (xv (Instr.build 33 ([(0, (.int .i64 99))]).toArray)) w fun t15 w =>
 N (xv (Instr.buildSlice 23 1 ([(0, t15)]).toArray)) w fun t16 w =>
 N (builtin Builtin.append #[23, 23] 23 ([false, false]).toArray ([t14, t16]).toArray) w fun t17 w =>
 M t17 fun t3 =>
 k (Env.p e 3 t3) w)
def c4_8_s:=reg4 c4_8 .ret (fun N M G k e w =>
 M (.bool false) fun t2 =>
 k (Env.p e 2 t2) w)
def c4_7_s:=cond4 c4_7 .skip 11 c4_8
def c4_6_s:=reg4 c4_6 c4_7 (fun N M G k e w =>
 N (xcall (.func (.func 8) #[] #[]) []) w fun t10 w =>
 N (xv (Op.unary .not t10)) w fun t11 w =>
 k (Env.p e 11 t11) w)
def c4_1_s:=seq4 c4_1 c4_2 c4_6
def c4_s:=reg4 c4 c4_1 (fun N M G k e w =>
 M (.bool false) fun t2 =>
 k (Env.p e 2 t2) w)
theorem call4 {a0 : Value} {w : World} {R : Value → World → Prop} (h : W3 Tryd.prog 63 V4 c4 (retQ Tryd.prog [.tmp 2] R) (argE [a0]) w) : CallsN Tryd.prog 4 [a0] w R :=
 callsN_of_W3 (c := c4) (rs := [.tmp 2]) V4 Tryd.ntmps4 (by rw [Tryd.results4]) mixed Tryd.func4 (by kernel_rfl) (by kernel_rfl) (by kernel_rfl) (by kernel_rfl) (by simp) h
def w3t_4:=w3t Tryd.prog 63 V4
def hk4 := aI @c4_5_s <| aI @c4_4_s <| aI @c4_3_s <| aI @c4_2_s <| aI @c4_8_s <| aI @c4_7_s <| aI @c4_6_s <| aI @c4_1_s <| aI @c4_s <| @w3t_4
-- K4: ↓hk4
/-! ### vouch/vouchlaw21.ScriptBack -/
def V5 : Nat → Bool := fun i => [0, 1, 4, 5, 6, 7, 8, 9, 10, 12, 13, 15, 16, 18, 19, 21, 23, 31, 51, 55, 79, 87, 98].elem i
def block5:=@s_block Tryd.prog 116 V5
def cond5:=@s_cond Tryd.prog 116 V5
def loop5:=@s_loop Tryd.prog 116 V5
def reg5:=@s_reg Tryd.prog 116 V5
def rend5:=@s_rend Tryd.prog 116 V5
def seq5:=@s_seq Tryd.prog 116 V5
noncomputable def c5:Code:=(Tryd.f5.body.getD .skip)
noncomputable def c5_1:=cR c5
noncomputable def c5_2:=cR c5_1
noncomputable def c5_3:=cR c5_2
noncomputable def c5_4:=cR c5_3
noncomputable def c5_5:=cR c5_4
noncomputable def c5_6:=cR c5_5
noncomputable def c5_7:=cR c5_6
noncomputable def c5_8:=cR c5_7
noncomputable def c5_9:=cR c5_8
noncomputable def c5_10:=cL c5_7
noncomputable def c5_11:=cR c5_10
noncomputable def c5_12:=cL c5_11
noncomputable def c5_13:=cL c5_5
noncomputable def c5_14:=cR c5_13
noncomputable def c5_15:=cL c5_14
noncomputable def c5_16:=cL c5_3
noncomputable def c5_17:=cR c5_16
noncomputable def c5_18:=cL c5_17
noncomputable def c5_19:=cR c5_18
noncomputable def c5_20:=cL c5_19
noncomputable def c5_21:=cR c5_17
noncomputable def c5_22:=cR c5_21
noncomputable def c5_23:=cR c5_22
noncomputable def c5_24:=cR c5_23
noncomputable def c5_25:=cR c5_24
noncomputable def c5_26:=cL c5_25
noncomputable def c5_27:=cL c5_22
noncomputable def c5_28:=cR c5_27
noncomputable def c5_29:=cL c5_28
noncomputable def c5_30:=cL c5_29
noncomputable def c5_31:=cR c5_30
noncomputable def c5_32:=cR c5_31
noncomputable def c5_33:=cL c5_31
noncomputable def c5_34:=cL c5_33
noncomputable def c5_35:=cL c5_30
noncomputable def c5_36:=cR c5_35
noncomputable def c5_37:=cL c5_1
noncomputable def c5_38:=cR c5_37
noncomputable def c5_39:=cL c5_38
def c5_9_s:=reg5 c5_9 .ret (fun N M G k e w =>
 M (e 18) fun t105 =>
 N (xv (xbin .eql 24 (.tmp 105) (.const (.int .i64 0)) t105 (.int .i64 0))) w fun t106 w =>
 M t106 fun t107 =>
 G (isB t107 true) (fun K => M (e 21) fun v => K v w) (fun t108 w =>
 G (isB t107 true) (fun K => N (xv (xbin .eql 24 (.tmp 108) (.const (.int .i64 0)) t108 (.int .i64 0))) w K) (fun t109 w =>
 N (xpick t107 t109 (.bool false)) w fun t110 w =>
 M t110 fun t111 =>
 G (isB t111 true) (fun K => M (e 13) fun v => K v w) (fun t112 w =>
 G (isB t111 true) (fun K => M (e 19) fun v => K v w) (fun t113 w =>
 G (isB t111 true) (fun K => N (xcall (.func (.func 11) #[] #[]) [t112, t113]) w K) (fun t114 w =>
 N (xpick t111 t114 (.bool false)) w fun t115 w =>
 M t115 fun t4 =>
 k (Env.p e 4 t4) w) w) w) w) w) w)
def c5_8_s:=reg5 c5_8 c5_9 (fun N M G k e w =>
 M (e 16) fun t100 =>
 N (xcall (.func (.func 9) #[] #[]) [t100]) w fun t101 w =>
 M t101 fun t99 =>
 N (xv (Instr.extract t99 0)) w fun t102 w =>
 N (xv (Instr.extract t99 1)) w fun t103 w =>
 N (xv (Instr.extract t99 2)) w fun t104 w =>
 M t102 fun t19 =>
 M t103 fun t20 =>
 M t104 fun t21 =>
 k (Env.p (Env.p e 19 t19) 21 t21) w)
def c5_12_s:=reg5 c5_12 .ret (fun N M G k e w =>
 M (.bool true) fun t4 =>
 k (Env.p e 4 t4) w)
def c5_11_s:=cond5 c5_11 .skip 98 c5_12
def c5_10_s:=reg5 c5_10 c5_11 (fun N M G k e w =>
 M (e 18) fun t97 =>
 N (xv (xbin .eql 3 (.tmp 97) (.const (.int .i64 2)) t97 (.int .i64 2))) w fun t98 w =>
 k (Env.p e 98 t98) w)
def c5_7_s:=seq5 c5_7 c5_8 c5_10
def c5_6_s:=reg5 c5_6 c5_7 (fun N M G k e w =>
 M (e 13) fun t92 =>
 N (xcall (.func (.func 12) #[] #[]) [t92]) w fun t93 w =>
 M t93 fun t91 =>
 N (xv (Instr.extract t91 0)) w fun t94 w =>
 N (xv (Instr.extract t91 1)) w fun t95 w =>
 N (xv (Instr.extract t91 2)) w fun t96 w =>
 M t94 fun t16 =>
 M t95 fun t17 =>
 M t96 fun t18 =>
 k (Env.p (Env.p e 16 t16) 18 t18) w)
def c5_15_s:=reg5 c5_15 .ret (fun N M G k e w =>
 M (e 13) fun t88 =>
 N (builtin Builtin.len #[23] 3 ([false]).toArray ([t88]).toArray) w fun t89 w =>
 N (xv (xbin .eql 3 (.tmp 89) (.const (.int .i64 0)) t89 (.int .i64 0))) w fun t90 w =>
 M t90 fun t4 =>
 k (Env.p e 4 t4) w)
def c5_14_s:=cond5 c5_14 .skip 87 c5_15
def c5_13_s:=reg5 c5_13 c5_14 (fun N M G k e w =>
 M (e 15) fun t86 =>
 N (xv (xbin .neq 24 (.tmp 86) (.const (.int .i64 0)) t86 (.int .i64 0))) w fun t87 w =>
 k (Env.p e 87 t87) w)
def c5_5_s:=seq5 c5_5 c5_6 c5_13
def c5_4_s:=reg5 c5_4 c5_5 (fun N M G k e w =>
 M (e 1) fun t81 =>
 N (xcall (.func (.func 9) #[] #[]) [t81]) w fun t82 w =>
 M t82 fun t80 =>
 N (xv (Instr.extract t80 0)) w fun t83 w =>
 N (xv (Instr.extract t80 1)) w fun t84 w =>
 N (xv (Instr.extract t80 2)) w fun t85 w =>
 M t83 fun t13 =>
 M t84 fun t14 =>
 M t85 fun t15 =>
 k (Env.p (Env.p e 13 t13) 15 t15) w)
def c5_20_s:=reg5 c5_20 .ret (fun N M G k e w =>
 M (.bool false) fun t4 =>
 k (Env.p e 4 t4) w)
def c5_19_s:=cond5 c5_19 .skip 51 c5_20
def c5_18_s:=reg5 c5_18 c5_19 (fun N M G k e w =>
 M (e 5) fun t32 =>
 N (xv (xbin .neq 9 (.tmp 32) (.const (.string ⟨#[]⟩)) t32 (.string ⟨#[]⟩))) w fun t33 w =>
 M t33 fun t34 =>
 G (isB t34 false) (fun K => M (e 6) fun v => K v w) (fun t35 w =>
 G (isB t34 false) (fun K => N (xv (xbin .lss 3 (.tmp 35) (.const (.int .i64 0)) t35 (.int .i64 0))) w K) (fun t36 w =>
 N (xpick t34 (.bool true) t36) w fun t37 w =>
 M t37 fun t38 =>
 G (isB t38 false) (fun K => M (e 6) fun v => K v w) (fun t39 w =>
 G (isB t38 false) (fun K => M (e 0) fun v => K v w) (fun t40 w =>
 G (isB t38 false) (fun K => N (builtin Builtin.len #[23] 3 ([false]).toArray ([t40]).toArray) w K) (fun t41 w =>
 G (isB t38 false) (fun K => N (xv (xbin .gtr 3 (.tmp 39) (.tmp 41) t39 t41)) w K) (fun t42 w =>
 N (xpick t38 (.bool true) t42) w fun t43 w =>
 M t43 fun t44 =>
 G (isB t44 false) (fun K => M (e 7) fun v => K v w) (fun t45 w =>
 G (isB t44 false) (fun K => N (xv (xbin .eql 3 (.tmp 45) (.const (.int .i64 60)) t45 (.int .i64 60))) w K) (fun t46 w =>
 G (isB t44 false) (fun K => M t46 fun v => K v w) (fun t47 w =>
 G (isB t47 true) (fun K => M (e 6) fun v => K v w) (fun t48 w =>
 G (isB t47 true) (fun K => N (xv (xbin .eql 3 (.tmp 48) (.const (.int .i64 0)) t48 (.int .i64 0))) w K) (fun t49 w =>
 G (isB t44 false) (fun K => N (xpick t47 t49 (.bool false)) w K) (fun t50 w =>
 N (xpick t44 (.bool true) t50) w fun t51 w =>
 k (Env.p e 51 t51) w) w) w) w) w) w) w) w) w) w) w) w) w)
def c5_26_s:=reg5 c5_26 .ret (fun N M G k e w =>
 M (.bool false) fun t4 =>
 k (Env.p e 4 t4) w)
def c5_25_s:=cond5 c5_25 .skip 79 c5_26
def c5_24_s:=reg5 c5_24 c5_25 (fun N M G k e w =>
 M (e 12) fun t72 =>
 N (xv (xbin .neq 24 (.tmp 72) (.const (.int .i64 0)) t72 (.int .i64 0))) w fun t73 w =>
 M t73 fun t74 =>
 G (isB t74 false) (fun K => M (e 10) fun v => K v w) (fun t75 w =>
 G (isB t74 false) (fun K => M (e 8) fun v => K v w) (fun t76 w =>
 G (isB t74 false) (fun K => N (xcall (.func (.func 11) #[] #[]) [t75, t76]) w K) (fun t77 w =>
 G (isB t74 false) (fun K => N (xv (Op.unary .not t77)) w K) (fun t78 w =>
 N (xpick t74 (.bool true) t78) w fun t79 w =>
 k (Env.p e 79 t79) w) w) w) w) w)
def c5_23_s:=reg5 c5_23 c5_24 (fun N M G k e w =>
 M (e 5) fun t67 =>
 N (xcall (.func (.func 9) #[] #[]) [t67]) w fun t68 w =>
 M t68 fun t66 =>
 N (xv (Instr.extract t66 0)) w fun t69 w =>
 N (xv (Instr.extract t66 1)) w fun t70 w =>
 N (xv (Instr.extract t66 2)) w fun t71 w =>
 M t69 fun t10 =>
 M t70 fun t11 =>
 M t71 fun t12 =>
 k (Env.p (Env.p e 10 t10) 12 t12) w)
def c5_32_s:=rend5 c5_32 (fun N M G k e w =>
 M (e 9) fun t56 =>
 N (xv (xbin .add 3 (.tmp 56) (.const (.int .i64 1)) t56 (.int .i64 1))) w fun t57 w =>
 M t57 fun t9 =>
 k (Env.p e 9 t9) w)
def c5_34_s:=rend5 c5_34 (fun N M G k e w =>
 M (e 8) fun t58 =>
 M (e 0) fun t59 =>
 M (e 9) fun t60 =>
 N (xv (indexAt 23 t59 t60)) w fun t61 w =>
 N (xv (loadAt 33 t61)) w fun t62 w =>
 N (xcall (.func (.func 14) #[] #[]) [t62]) w fun t63 w =>
 N (xv (Instr.buildSlice 23 1 ([(0, t63)]).toArray)) w fun t64 w =>
 N (builtin Builtin.append #[23, 23] 23 ([false, false]).toArray ([t58, t64]).toArray) w fun t65 w =>
 M t65 fun t8 =>
 k (Env.p e 8 t8) w)
def c5_33_s:=block5 c5_33 c5_34 1
def c5_31_s:=seq5 c5_31 c5_32 c5_33
def c5_36_s:=cond5 c5_36 (.exit 0) 55 .skip
def c5_35_s:=reg5 c5_35 c5_36 (fun N M G k e w =>
 M (e 9) fun t52 =>
 M (e 0) fun t53 =>
 N (builtin Builtin.len #[23] 3 ([false]).toArray ([t53]).toArray) w fun t54 w =>
 N (xv (xbin .lss 3 (.tmp 52) (.tmp 54) t52 t54)) w fun t55 w =>
 k (Env.p e 55 t55) w)
def c5_30_s:=seq5 c5_30 c5_31 c5_35
def c5_29_s:=loop5 c5_29 c5_30
def c5_28_s:=block5 c5_28 c5_29 0
def c5_27_s:=reg5 c5_27 c5_28 (fun N M G k e w =>
 M (.int .i64 0) fun t9 =>
 k (Env.p e 9 t9) w)
def c5_22_s:=seq5 c5_22 c5_23 c5_27
def c5_21_s:=reg5 c5_21 c5_22 (fun N M G k e w =>
 M (.slice none 0 0) fun t8 =>
 k (Env.p e 8 t8) w)
def c5_17_s:=cond5 c5_17 c5_21 31 c5_18
def c5_16_s:=reg5 c5_16 c5_17 (fun N M G k e w =>
 M (e 7) fun t30 =>
 N (xv (xbin .neq 24 (.tmp 30) (.const (.int .i64 0)) t30 (.int .i64 0))) w fun t31 w =>
 k (Env.p e 31 t31) w)
def c5_3_s:=seq5 c5_3 c5_4 c5_16
def c5_2_s:=reg5 c5_2 c5_3 (fun N M G k e w =>
 M (e 0) fun t25 =>
 N (xcall (.func (.func 12) #[] #[]) [t25]) w fun t26 w =>
 M t26 fun t24 =>
 N (xv (Instr.extract t24 0)) w fun t27 w =>
 N (xv (Instr.extract t24 1)) w fun t28 w =>
 N (xv (Instr.extract t24 2)) w fun t29 w =>
 M t27 fun t5 =>
 M t28 fun t6 =>
 M t29 fun t7 =>
 k (Env.p (Env.p (Env.p e 5 t5) 6 t6) 7 t7) w)
def c5_39_s:=reg5 c5_39 .ret (fun N M G k e w =>
 M (.bool false) fun t4 =>
 k (Env.p e 4 t4) w)
def c5_38_s:=cond5 c5_38 .skip 23 c5_39
def c5_37_s:=reg5 c5_37 c5_38 (fun N M G k e w =>
 N (xcall (.func (.func 8) #[] #[]) []) w fun t22 w =>
 N (xv (Op.unary .not t22)) w fun t23 w =>
 k (Env.p e 23 t23) w)
def c5_1_s:=seq5 c5_1 c5_2 c5_37
def c5_s:=reg5 c5 c5_1 (fun N M G k e w =>
 M (.bool false) fun t4 =>
 k (Env.p e 4 t4) w)
theorem call5 {a0 a1 : Value} {w : World} {R : Value → World → Prop} (h : W3 Tryd.prog 116 V5 c5 (retQ Tryd.prog [.tmp 4] R) (argE [a0, a1]) w) : CallsN Tryd.prog 5 [a0, a1] w R :=
 callsN_of_W3 (c := c5) (rs := [.tmp 4]) V5 Tryd.ntmps5 (by rw [Tryd.results5]) mixed Tryd.func5 (by kernel_rfl) (by kernel_rfl) (by kernel_rfl) (by kernel_rfl) (by simp) h
def w3t_5:=w3t Tryd.prog 116 V5
def hk5 := aI @c5_9_s <| aI @c5_8_s <| aI @c5_12_s <| aI @c5_11_s <| aI @c5_10_s <| aI @c5_7_s <| aI @c5_6_s <| aI @c5_15_s <| aI @c5_14_s <| aI @c5_13_s <| aI @c5_5_s <| aI @c5_4_s <| aI @c5_20_s <| aI @c5_19_s <| aI @c5_18_s <| aI @c5_26_s <| aI @c5_25_s <| aI @c5_24_s <| aI @c5_23_s <| aI @c5_32_s <| aI @c5_34_s <| aI @c5_33_s <| aI @c5_31_s <| aI @c5_36_s <| aI @c5_35_s <| aI @c5_30_s <| aI @c5_29_s <| aI @c5_28_s <| aI @c5_27_s <| aI @c5_22_s <| aI @c5_21_s <| aI @c5_17_s <| aI @c5_16_s <| aI @c5_3_s <| aI @c5_2_s <| aI @c5_39_s <| aI @c5_38_s <| aI @c5_37_s <| aI @c5_1_s <| aI @c5_s <| @w3t_5
-- K5: ↓hk5
/-! ### vouch/vouchlaw21.ScriptLines -/
def V6 : Nat → Bool := fun i => [0, 1, 4, 5, 6, 7, 8, 9, 10, 11, 12, 13, 14, 15, 25, 52, 58, 61, 72].elem i
def block6:=@s_block Tryd.prog 101 V6
def cond6:=@s_cond Tryd.prog 101 V6
def loop6:=@s_loop Tryd.prog 101 V6
def reg6:=@s_reg Tryd.prog 101 V6
def rend6:=@s_rend Tryd.prog 101 V6
def seq6:=@s_seq Tryd.prog 101 V6
noncomputable def c6:Code:=(Tryd.f6.body.getD .skip)
noncomputable def c6_1:=cR c6
noncomputable def c6_2:=cR c6_1
noncomputable def c6_3:=cR c6_2
noncomputable def c6_4:=cR c6_3
noncomputable def c6_5:=cR c6_4
noncomputable def c6_6:=cR c6_5
noncomputable def c6_7:=cR c6_6
noncomputable def c6_8:=cR c6_7
noncomputable def c6_9:=cL c6_7
noncomputable def c6_10:=cL c6_9
noncomputable def c6_11:=cR c6_10
noncomputable def c6_12:=cL c6_11
noncomputable def c6_13:=cR c6_11
noncomputable def c6_14:=cR c6_13
noncomputable def c6_15:=cL c6_14
noncomputable def c6_16:=cL c6_6
noncomputable def c6_17:=cR c6_16
noncomputable def c6_18:=cL c6_17
noncomputable def c6_19:=cL c6_18
noncomputable def c6_20:=cR c6_19
noncomputable def c6_21:=cR c6_20
noncomputable def c6_22:=cL c6_20
noncomputable def c6_23:=cL c6_22
noncomputable def c6_24:=cR c6_23
noncomputable def c6_25:=cL c6_24
noncomputable def c6_26:=cL c6_19
noncomputable def c6_27:=cR c6_26
noncomputable def c6_28:=cL c6_1
noncomputable def c6_29:=cR c6_28
noncomputable def c6_30:=cL c6_29
def c6_8_s:=reg6 c6_8 .ret (fun N M G k e w =>
 M (e 13) fun t86 =>
 N (xv (xbin .eql 24 (.tmp 86) (.const (.int .i64 0)) t86 (.int .i64 0))) w fun t87 w =>
 M t87 fun t88 =>
 G (isB t88 true) (fun K => M (e 12) fun v => K v w) (fun t89 w =>
 G (isB t88 true) (fun K => N (xv (xbin .eql 3 (.tmp 89) (.const (.int .i64 0)) t89 (.int .i64 0))) w K) (fun t90 w =>
 N (xpick t88 t90 (.bool false)) w fun t91 w =>
 M t91 fun t92 =>
 G (isB t92 true) (fun K => M (e 11) fun v => K v w) (fun t93 w =>
 G (isB t92 true) (fun K => N (xv (Instr.buildSlice 23 0 ([]).toArray)) w K) (fun t94 w =>
 G (isB t92 true) (fun K => M (e 5) fun v => K v w) (fun t95 w =>
 G (isB t92 true) (fun K => N (builtin Builtin.append #[23, 23] 23 ([false, false]).toArray ([t94, t95]).toArray) w K) (fun t96 w =>
 G (isB t92 true) (fun K => M (e 8) fun v => K v w) (fun t97 w =>
 G (isB t92 true) (fun K => N (builtin Builtin.append #[23, 23] 23 ([false, false]).toArray ([t96, t97]).toArray) w K) (fun t98 w =>
 G (isB t92 true) (fun K => N (xcall (.func (.func 11) #[] #[]) [t93, t98]) w K) (fun t99 w =>
 N (xpick t92 t99 (.bool false)) w fun t100 w =>
 M t100 fun t4 =>
 k (Env.p e 4 t4) w) w) w) w) w) w) w) w) w) w)
def c6_12_s:=reg6 c6_12 .ret (fun N M G k e w =>
 M (e 13) fun t64 =>
 M (e 7) fun t65 =>
 N (xv (xbin .eql 24 (.tmp 64) (.tmp 65) t64 t65)) w fun t66 w =>
 M t66 fun t67 =>
 G (isB t67 true) (fun K => M (e 12) fun v => K v w) (fun t68 w =>
 G (isB t67 true) (fun K => M (e 6) fun v => K v w) (fun t69 w =>
 G (isB t67 true) (fun K => N (xv (xbin .eql 3 (.tmp 68) (.tmp 69) t68 t69)) w K) (fun t70 w =>
 N (xpick t67 t70 (.bool false)) w fun t71 w =>
 M t71 fun t4 =>
 k (Env.p e 4 t4) w) w) w) w)
def c6_15_s:=reg6 c6_15 .ret (fun N M G k e w =>
 M (e 13) fun t75 =>
 M (e 10) fun t76 =>
 N (xv (xbin .eql 24 (.tmp 75) (.tmp 76) t75 t76)) w fun t77 w =>
 M t77 fun t78 =>
 G (isB t78 true) (fun K => M (e 12) fun v => K v w) (fun t79 w =>
 G (isB t78 true) (fun K => M (e 14) fun v => K v w) (fun t80 w =>
 G (isB t78 true) (fun K => N (xv (xbin .add 3 (.tmp 80) (.const (.int .i64 2)) t80 (.int .i64 2))) w K) (fun t81 w =>
 G (isB t78 true) (fun K => M (e 9) fun v => K v w) (fun t82 w =>
 G (isB t78 true) (fun K => N (xv (xbin .add 3 (.tmp 81) (.tmp 82) t81 t82)) w K) (fun t83 w =>
 G (isB t78 true) (fun K => N (xv (xbin .eql 3 (.tmp 79) (.tmp 83) t79 t83)) w K) (fun t84 w =>
 N (xpick t78 t84 (.bool false)) w fun t85 w =>
 M t85 fun t4 =>
 k (Env.p e 4 t4) w) w) w) w) w) w) w)
def c6_14_s:=cond6 c6_14 .skip 72 c6_15
def c6_13_s:=reg6 c6_13 c6_14 (fun N M G k e w =>
 M (e 10) fun t73 =>
 N (xv (xbin .neq 24 (.tmp 73) (.const (.int .i64 0)) t73 (.int .i64 0))) w fun t74 w =>
 M t74 fun t72 =>
 k (Env.p e 72 t72) w)
def c6_11_s:=cond6 c6_11 c6_13 61 c6_12
def c6_10_s:=reg6 c6_10 c6_11 (fun N M G k e w =>
 M (e 7) fun t62 =>
 N (xv (xbin .neq 24 (.tmp 62) (.const (.int .i64 0)) t62 (.int .i64 0))) w fun t63 w =>
 M t63 fun t61 =>
 k (Env.p e 61 t61) w)
def c6_9_s:=block6 c6_9 c6_10 2
def c6_7_s:=seq6 c6_7 c6_8 c6_9
def c6_21_s:=rend6 c6_21 (fun N M G k e w =>
 M (e 15) fun t53 =>
 N (xv (xbin .add 3 (.tmp 53) (.const (.int .i64 1)) t53 (.int .i64 1))) w fun t54 w =>
 M t54 fun t15 =>
 k (Env.p e 15 t15) w)
def c6_25_s:=rend6 c6_25 (fun N M G k e w =>
 M (e 14) fun t59 =>
 N (xv (xbin .add 3 (.tmp 59) (.const (.int .i64 1)) t59 (.int .i64 1))) w fun t60 w =>
 M t60 fun t14 =>
 k (Env.p e 14 t14) w)
def c6_24_s:=cond6 c6_24 .skip 58 c6_25
def c6_23_s:=reg6 c6_23 c6_24 (fun N M G k e w =>
 M (e 0) fun t55 =>
 M (e 15) fun t56 =>
 N (xv (Instr.index 9 t55 t56)) w fun t57 w =>
 N (xv (xbin .eql 5 (.tmp 57) (.const (.int .u8 10)) t57 (.int .u8 10))) w fun t58 w =>
 k (Env.p e 58 t58) w)
def c6_22_s:=block6 c6_22 c6_23 1
def c6_20_s:=seq6 c6_20 c6_21 c6_22
def c6_27_s:=cond6 c6_27 (.exit 0) 52 .skip
def c6_26_s:=reg6 c6_26 c6_27 (fun N M G k e w =>
 M (e 15) fun t49 =>
 M (e 0) fun t50 =>
 N (builtin Builtin.len #[9] 3 ([false]).toArray ([t50]).toArray) w fun t51 w =>
 N (xv (xbin .lss 3 (.tmp 49) (.tmp 51) t49 t51)) w fun t52 w =>
 k (Env.p e 52 t52) w)
def c6_19_s:=seq6 c6_19 c6_20 c6_26
def c6_18_s:=loop6 c6_18 c6_19
def c6_17_s:=block6 c6_17 c6_18 0
def c6_16_s:=reg6 c6_16 c6_17 (fun N M G k e w =>
 M (.int .i64 0) fun t15 =>
 k (Env.p e 15 t15) w)
def c6_6_s:=seq6 c6_6 c6_7 c6_16
def c6_5_s:=reg6 c6_5 c6_6 (fun N M G k e w =>
 M (.int .i64 1) fun t14 =>
 k (Env.p e 14 t14) w)
def c6_4_s:=reg6 c6_4 c6_5 (fun N M G k e w =>
 M (e 0) fun t40 =>
 N (xv (xbin .add 9 (.tmp 40) (.const (.string ⟨#[10, 32, 32, 10, 35, 32]⟩)) t40 (.string ⟨#[10, 32, 32, 10, 35, 32]⟩))) w fun t41 w =>
 N (xv (xbin .add 9 (.tmp 41) (.const (.string ⟨#[110, 111, 116, 101, 10, 32]⟩)) t41 (.string ⟨#[110, 111, 116, 101, 10, 32]⟩))) w fun t42 w =>
 M (e 1) fun t43 =>
 N (xv (xbin .add 9 (.tmp 42) (.tmp 43) t42 t43)) w fun t44 w =>
 N (xcall (.func (.func 9) #[] #[]) [t44]) w fun t45 w =>
 M t45 fun t39 =>
 N (xv (Instr.extract t39 0)) w fun t46 w =>
 N (xv (Instr.extract t39 1)) w fun t47 w =>
 N (xv (Instr.extract t39 2)) w fun t48 w =>
 M t46 fun t11 =>
 M t47 fun t12 =>
 M t48 fun t13 =>
 k (Env.p (Env.p (Env.p e 11 t11) 12 t12) 13 t13) w)
def c6_3_s:=reg6 c6_3 c6_4 (fun N M G k e w =>
 M (e 1) fun t34 =>
 N (xcall (.func (.func 9) #[] #[]) [t34]) w fun t35 w =>
 M t35 fun t33 =>
 N (xv (Instr.extract t33 0)) w fun t36 w =>
 N (xv (Instr.extract t33 1)) w fun t37 w =>
 N (xv (Instr.extract t33 2)) w fun t38 w =>
 M t36 fun t8 =>
 M t37 fun t9 =>
 M t38 fun t10 =>
 k (Env.p (Env.p (Env.p e 8 t8) 9 t9) 10 t10) w)
def c6_2_s:=reg6 c6_2 c6_3 (fun N M G k e w =>
 M (e 0) fun t28 =>
 N (xcall (.func (.func 9) #[] #[]) [t28]) w fun t29 w =>
 M t29 fun t27 =>
 N (xv (Instr.extract t27 0)) w fun t30 w =>
 N (xv (Instr.extract t27 1)) w fun t31 w =>
 N (xv (Instr.extract t27 2)) w fun t32 w =>
 M t30 fun t5 =>
 M t31 fun t6 =>
 M t32 fun t7 =>
 k (Env.p (Env.p (Env.p e 5 t5) 6 t6) 7 t7) w)
def c6_30_s:=reg6 c6_30 .ret (fun N M G k e w =>
 N (xcall (.func (.func 8) #[] #[]) []) w fun t26 w =>
 M t26 fun t4 =>
 k (Env.p e 4 t4) w)
def c6_29_s:=cond6 c6_29 .skip 25 c6_30
def c6_28_s:=reg6 c6_28 c6_29 (fun N M G k e w =>
 N (xcall (.func (.func 8) #[] #[]) []) w fun t16 w =>
 N (xv (Op.unary .not t16)) w fun t17 w =>
 M t17 fun t18 =>
 G (isB t18 false) (fun K => M (e 0) fun v => K v w) (fun t19 w =>
 G (isB t18 false) (fun K => N (builtin Builtin.len #[9] 3 ([false]).toArray ([t19]).toArray) w K) (fun t20 w =>
 G (isB t18 false) (fun K => M (e 1) fun v => K v w) (fun t21 w =>
 G (isB t18 false) (fun K => N (builtin Builtin.len #[9] 3 ([false]).toArray ([t21]).toArray) w K) (fun t22 w =>
 G (isB t18 false) (fun K => N (xv (xbin .add 3 (.tmp 20) (.tmp 22) t20 t22)) w K) (fun t23 w =>
 G (isB t18 false) (fun K => N (xv (xbin .gtr 3 (.tmp 23) (.const (.int .i64 60000)) t23 (.int .i64 60000))) w K) (fun t24 w =>
 N (xpick t18 (.bool true) t24) w fun t25 w =>
 k (Env.p e 25 t25) w) w) w) w) w) w) w)
def c6_1_s:=seq6 c6_1 c6_2 c6_28
def c6_s:=reg6 c6 c6_1 (fun N M G k e w =>
 M (.bool false) fun t4 =>
 k (Env.p e 4 t4) w)
theorem call6 {a0 a1 : Value} {w : World} {R : Value → World → Prop} (h : W3 Tryd.prog 101 V6 c6 (retQ Tryd.prog [.tmp 4] R) (argE [a0, a1]) w) : CallsN Tryd.prog 6 [a0, a1] w R :=
 callsN_of_W3 (c := c6) (rs := [.tmp 4]) V6 Tryd.ntmps6 (by rw [Tryd.results6]) mixed Tryd.func6 (by kernel_rfl) (by kernel_rfl) (by kernel_rfl) (by kernel_rfl) (by simp) h
def w3t_6:=w3t Tryd.prog 101 V6
def hk6 := aI @c6_8_s <| aI @c6_12_s <| aI @c6_15_s <| aI @c6_14_s <| aI @c6_13_s <| aI @c6_11_s <| aI @c6_10_s <| aI @c6_9_s <| aI @c6_7_s <| aI @c6_21_s <| aI @c6_25_s <| aI @c6_24_s <| aI @c6_23_s <| aI @c6_22_s <| aI @c6_20_s <| aI @c6_27_s <| aI @c6_26_s <| aI @c6_19_s <| aI @c6_18_s <| aI @c6_17_s <| aI @c6_16_s <| aI @c6_6_s <| aI @c6_5_s <| aI @c6_4_s <| aI @c6_3_s <| aI @c6_2_s <| aI @c6_30_s <| aI @c6_29_s <| aI @c6_28_s <| aI @c6_1_s <| aI @c6_s <| @w3t_6
-- K6: ↓hk6
/-! ### vouch/vouchlaw21.ScriptFull -/
def V7 : Nat → Bool := fun i => [0, 2, 3, 4, 5, 6, 7, 8, 10, 19, 35].elem i
def block7:=@s_block Tryd.prog 58 V7
def cond7:=@s_cond Tryd.prog 58 V7
def loop7:=@s_loop Tryd.prog 58 V7
def reg7:=@s_reg Tryd.prog 58 V7
def rend7:=@s_rend Tryd.prog 58 V7
def seq7:=@s_seq Tryd.prog 58 V7
noncomputable def c7:Code:=(Tryd.f7.body.getD .skip)
noncomputable def c7_1:=cR c7
noncomputable def c7_2:=cR c7_1
noncomputable def c7_3:=cR c7_2
noncomputable def c7_4:=cR c7_3
noncomputable def c7_5:=cR c7_4
noncomputable def c7_6:=cR c7_5
noncomputable def c7_7:=cR c7_6
noncomputable def c7_8:=cR c7_7
noncomputable def c7_9:=cL c7_7
noncomputable def c7_10:=cR c7_9
noncomputable def c7_11:=cL c7_10
noncomputable def c7_12:=cL c7_4
noncomputable def c7_13:=cR c7_12
noncomputable def c7_14:=cL c7_13
noncomputable def c7_15:=cL c7_14
noncomputable def c7_16:=cR c7_15
noncomputable def c7_17:=cR c7_16
noncomputable def c7_18:=cL c7_16
noncomputable def c7_19:=cL c7_18
noncomputable def c7_20:=cL c7_15
noncomputable def c7_21:=cR c7_20
noncomputable def c7_22:=cL c7_1
noncomputable def c7_23:=cR c7_22
noncomputable def c7_24:=cL c7_23
def c7_8_s:=reg7 c7_8 .ret (fun N M G k e w =>
 M (e 6) fun t47 =>
 N (builtin Builtin.len #[23] 3 ([false]).toArray ([t47]).toArray) w fun t48 w =>
 N (xv (xbin .eql 3 (.tmp 48) (.const (.int .i64 0)) t48 (.int .i64 0))) w fun t49 w =>
 M t49 fun t50 =>
 G (isB t50 true) (fun K => M (e 7) fun v => K v w) (fun t51 w =>
 G (isB t50 true) (fun K => N (xv (xbin .eql 3 (.tmp 51) (.const (.int .i64 0)) t51 (.int .i64 0))) w K) (fun t52 w =>
 N (xpick t50 t52 (.bool false)) w fun t53 w =>
 M t53 fun t54 =>
 G (isB t54 true) (fun K => M (e 8) fun v => K v w) (fun t55 w =>
 G (isB t54 true) (fun K => N (xv (xbin .eql 3 (.tmp 55) (.const (.int .i64 2)) t55 (.int .i64 2))) w K) (fun t56 w =>
 N (xpick t54 t56 (.bool false)) w fun t57 w =>
 M t57 fun t2 =>
 k (Env.p e 2 t2) w) w) w) w) w)
def c7_11_s:=reg7 c7_11 .ret (fun N M G k e w =>
 M (e 6) fun t36 =>
 N (builtin Builtin.len #[23] 3 ([false]).toArray ([t36]).toArray) w fun t37 w =>
 N (xv (xbin .eql 3 (.tmp 37) (.const (.int .i64 0)) t37 (.int .i64 0))) w fun t38 w =>
 M t38 fun t39 =>
 G (isB t39 true) (fun K => M (e 7) fun v => K v w) (fun t40 w =>
 G (isB t39 true) (fun K => N (xv (xbin .eql 3 (.tmp 40) (.const (.int .i64 0)) t40 (.int .i64 0))) w K) (fun t41 w =>
 N (xpick t39 t41 (.bool false)) w fun t42 w =>
 M t42 fun t43 =>
 G (isB t43 true) (fun K => M (e 8) fun v => K v w) (fun t44 w =>
 G (isB t43 true) (fun K => N (xv (xbin .eql 24 (.tmp 44) (.const (.int .i64 0)) t44 (.int .i64 0))) w K) (fun t45 w =>
 N (xpick t43 t45 (.bool false)) w fun t46 w =>
 M t46 fun t2 =>
 k (Env.p e 2 t2) w) w) w) w) w)
def c7_10_s:=cond7 c7_10 .skip 35 c7_11
def c7_9_s:=reg7 c7_9 c7_10 (fun N M G k e w =>
 M (e 3) fun t34 =>
 N (xv (xbin .leq 3 (.tmp 34) (.const (.int .i64 65536)) t34 (.int .i64 65536))) w fun t35 w =>
 k (Env.p e 35 t35) w)
def c7_7_s:=seq7 c7_7 c7_8 c7_9
def c7_6_s:=reg7 c7_6 c7_7 (fun N M G k e w =>
 M (e 4) fun t28 =>
 N (xv (convert 43 9 t28)) w fun t29 w =>
 N (xcall (.func (.func 9) #[] #[]) [t29]) w fun t30 w =>
 M t30 fun t27 =>
 N (xv (Instr.extract t27 0)) w fun t31 w =>
 N (xv (Instr.extract t27 1)) w fun t32 w =>
 N (xv (Instr.extract t27 2)) w fun t33 w =>
 M t31 fun t6 =>
 M t32 fun t7 =>
 M t33 fun t8 =>
 k (Env.p (Env.p (Env.p e 6 t6) 7 t7) 8 t8) w)
def c7_5_s:=reg7 c7_5 c7_6 (fun N M G k e w =>
 M (e 4) fun t25 =>
 N (xv (indexAt 43 t25 (.int .i64 0))) w fun t26 w =>
 N (xu (storeAt 5 t26 (.int .u8 35))) w fun _ w =>
 k e w)
def c7_17_s:=rend7 c7_17 (fun N M G k e w =>
 M (e 5) fun t20 =>
 N (xv (xbin .add 3 (.tmp 20) (.const (.int .i64 1)) t20 (.int .i64 1))) w fun t21 w =>
 M t21 fun t5 =>
 k (Env.p e 5 t5) w)
def c7_19_s:=rend7 c7_19 (fun N M G k e w =>
 M (e 4) fun t22 =>
 M (e 5) fun t23 =>
 N (xv (indexAt 43 t22 t23)) w fun t24 w =>
 N (xu (storeAt 5 t24 (.int .u8 32))) w fun _ w =>
 k e w)
def c7_18_s:=block7 c7_18 c7_19 1
def c7_16_s:=seq7 c7_16 c7_17 c7_18
def c7_21_s:=cond7 c7_21 (.exit 0) 19 .skip
def c7_20_s:=reg7 c7_20 c7_21 (fun N M G k e w =>
 M (e 5) fun t17 =>
 M (e 3) fun t18 =>
 N (xv (xbin .lss 3 (.tmp 17) (.tmp 18) t17 t18)) w fun t19 w =>
 k (Env.p e 19 t19) w)
def c7_15_s:=seq7 c7_15 c7_16 c7_20
def c7_14_s:=loop7 c7_14 c7_15
def c7_13_s:=block7 c7_13 c7_14 0
def c7_12_s:=reg7 c7_12 c7_13 (fun N M G k e w =>
 M (.int .i64 0) fun t5 =>
 k (Env.p e 5 t5) w)
def c7_4_s:=seq7 c7_4 c7_5 c7_12
def c7_3_s:=reg7 c7_3 c7_4 (fun N M G k e w =>
 M (e 3) fun t15 =>
 N (xv (Instr.makeSlice 43 t15 t15)) w fun t16 w =>
 M t16 fun t4 =>
 k (Env.p e 4 t4) w)
def c7_2_s:=reg7 c7_2 c7_3 (fun N M G k e w =>
 M (e 0) fun t11 =>
 N (xv (convert 42 3 t11)) w fun t12 w =>
 N (xv (xbin .rem 3 (.tmp 12) (.const (.int .i64 300)) t12 (.int .i64 300))) w fun t13 w =>
 N (xv (xbin .add 3 (.const (.int .i64 65400)) (.tmp 13) (.int .i64 65400) t13)) w fun t14 w =>
 M t14 fun t3 =>
 k (Env.p e 3 t3) w)
def c7_24_s:=reg7 c7_24 .ret (fun N M G k e w =>
 M (.bool false) fun t2 =>
 k (Env.p e 2 t2) w)
def c7_23_s:=cond7 c7_23 .skip 10 c7_24
def c7_22_s:=reg7 c7_22 c7_23 (fun N M G k e w =>
 N (xcall (.func (.func 8) #[] #[]) []) w fun t9 w =>
 N (xv (Op.unary .not t9)) w fun t10 w =>
 k (Env.p e 10 t10) w)
def c7_1_s:=seq7 c7_1 c7_2 c7_22
def c7_s:=reg7 c7 c7_1 (fun N M G k e w =>
 M (.bool false) fun t2 =>
 k (Env.p e 2 t2) w)
theorem call7 {a0 : Value} {w : World} {R : Value → World → Prop} (h : W3 Tryd.prog 58 V7 c7 (retQ Tryd.prog [.tmp 2] R) (argE [a0]) w) : CallsN Tryd.prog 7 [a0] w R :=
 callsN_of_W3 (c := c7) (rs := [.tmp 2]) V7 Tryd.ntmps7 (by rw [Tryd.results7]) mixed Tryd.func7 (by kernel_rfl) (by kernel_rfl) (by kernel_rfl) (by kernel_rfl) (by simp) h
def w3t_7:=w3t Tryd.prog 58 V7
def hk7 := aI @c7_8_s <| aI @c7_11_s <| aI @c7_10_s <| aI @c7_9_s <| aI @c7_7_s <| aI @c7_6_s <| aI @c7_5_s <| aI @c7_17_s <| aI @c7_19_s <| aI @c7_18_s <| aI @c7_16_s <| aI @c7_21_s <| aI @c7_20_s <| aI @c7_15_s <| aI @c7_14_s <| aI @c7_13_s <| aI @c7_12_s <| aI @c7_4_s <| aI @c7_3_s <| aI @c7_2_s <| aI @c7_24_s <| aI @c7_23_s <| aI @c7_22_s <| aI @c7_1_s <| aI @c7_s <| @w3t_7
-- K7: ↓hk7
/-! ### vouch/vouchlaw21.bare -/
def V14 : Nat → Bool := fun i => [0, 1, 2, 3, 8, 9, 17, 24, 32, 40, 46, 53].elem i
def block14:=@s_block Tryd.prog 62 V14
def cond14:=@s_cond Tryd.prog 62 V14
def reg14:=@s_reg Tryd.prog 62 V14
def rend14:=@s_rend Tryd.prog 62 V14
def seq14:=@s_seq Tryd.prog 62 V14
noncomputable def c14:Code:=(Tryd.f14.body.getD .skip)
noncomputable def c14_1:=cR c14
noncomputable def c14_2:=cR c14_1
noncomputable def c14_3:=cR c14_2
noncomputable def c14_4:=cL c14_2
noncomputable def c14_5:=cR c14_4
noncomputable def c14_6:=cL c14_5
noncomputable def c14_7:=cR c14_6
noncomputable def c14_8:=cL c14_7
noncomputable def c14_9:=cR c14_8
noncomputable def c14_10:=cR c14_7
noncomputable def c14_11:=cR c14_10
noncomputable def c14_12:=cL c14_11
noncomputable def c14_13:=cR c14_11
noncomputable def c14_14:=cR c14_13
noncomputable def c14_15:=cL c14_14
noncomputable def c14_16:=cR c14_15
noncomputable def c14_17:=cR c14_14
noncomputable def c14_18:=cR c14_17
noncomputable def c14_19:=cL c14_18
noncomputable def c14_20:=cR c14_19
noncomputable def c14_21:=cR c14_18
noncomputable def c14_22:=cR c14_21
noncomputable def c14_23:=cL c14_22
noncomputable def c14_24:=cR c14_22
noncomputable def c14_25:=cR c14_24
noncomputable def c14_26:=cL c14_25
noncomputable def c14_27:=cR c14_25
noncomputable def c14_28:=cR c14_27
noncomputable def c14_29:=cL c14_28
noncomputable def c14_30:=cL c14_27
noncomputable def c14_31:=cR c14_30
noncomputable def c14_32:=cR c14_31
noncomputable def c14_33:=cR c14_32
noncomputable def c14_34:=cR c14_33
noncomputable def c14_35:=cR c14_34
noncomputable def c14_36:=cR c14_35
noncomputable def c14_37:=cL c14_24
noncomputable def c14_38:=cR c14_37
noncomputable def c14_39:=cR c14_38
noncomputable def c14_40:=cR c14_39
noncomputable def c14_41:=cR c14_40
noncomputable def c14_42:=cL c14_21
noncomputable def c14_43:=cR c14_42
noncomputable def c14_44:=cR c14_43
noncomputable def c14_45:=cL c14_10
noncomputable def c14_46:=cR c14_45
noncomputable def c14_47:=cR c14_46
noncomputable def c14_48:=cR c14_47
noncomputable def c14_49:=cR c14_48
def c14_3_s:=reg14 c14_3 .ret (fun N M G k e w =>
 N (xv (loadAt 33 (e 3))) w fun t61 w =>
 N (xu (storeAt 33 (e 2) t61)) w fun _ w =>
 k e w)
def c14_9_s:=rend14 c14_9 (fun N M G k e w =>
 N (xv (fieldAt 33 (e 1) 6)) w fun t14 w =>
 N (xv (loadAt 31 t14)) w fun t15 w =>
 N (xv (fieldAt 33 (e 3) 6)) w fun t16 w =>
 N (xu (storeAt 31 t16 t15)) w fun _ w =>
 k e w)
def c14_8_s:=reg14 c14_8 c14_9 (fun N M G k e w =>
 N (xv (fieldAt 33 (e 1) 1)) w fun t11 w =>
 N (xv (loadAt 3 t11)) w fun t12 w =>
 N (xv (fieldAt 33 (e 3) 1)) w fun t13 w =>
 N (xu (storeAt 3 t13 t12)) w fun _ w =>
 k e w)
def c14_12_s:=rend14 c14_12 (fun N M G k e w =>
 N (xv (fieldAt 33 (e 1) 1)) w fun t21 w =>
 N (xv (loadAt 3 t21)) w fun t22 w =>
 N (xv (fieldAt 33 (e 3) 1)) w fun t23 w =>
 N (xu (storeAt 3 t23 t22)) w fun _ w =>
 k e w)
def c14_16_s:=rend14 c14_16 (fun N M G k e w =>
 N (xv (fieldAt 33 (e 1) 7)) w fun t29 w =>
 N (xv (loadAt 9 t29)) w fun t30 w =>
 N (xv (fieldAt 33 (e 3) 7)) w fun t31 w =>
 N (xu (storeAt 9 t31 t30)) w fun _ w =>
 k e w)
def c14_15_s:=reg14 c14_15 c14_16 (fun N M G k e w =>
 N (xv (fieldAt 33 (e 1) 1)) w fun t26 w =>
 N (xv (loadAt 3 t26)) w fun t27 w =>
 N (xv (fieldAt 33 (e 3) 1)) w fun t28 w =>
 N (xu (storeAt 3 t28 t27)) w fun _ w =>
 k e w)
def c14_20_s:=rend14 c14_20 (fun N M G k e w =>
 N (xv (fieldAt 33 (e 1) 5)) w fun t37 w =>
 N (xv (loadAt 9 t37)) w fun t38 w =>
 N (xv (fieldAt 33 (e 3) 5)) w fun t39 w =>
 N (xu (storeAt 9 t39 t38)) w fun _ w =>
 k e w)
def c14_19_s:=reg14 c14_19 c14_20 (fun N M G k e w =>
 N (xv (fieldAt 33 (e 1) 2)) w fun t34 w =>
 N (xv (loadAt 3 t34)) w fun t35 w =>
 N (xv (fieldAt 33 (e 3) 2)) w fun t36 w =>
 N (xu (storeAt 3 t36 t35)) w fun _ w =>
 k e w)
def c14_23_s:=rend14 c14_23 (fun N M G k e w =>
 N (xv (fieldAt 33 (e 1) 2)) w fun t43 w =>
 N (xv (loadAt 3 t43)) w fun t44 w =>
 N (xv (fieldAt 33 (e 3) 2)) w fun t45 w =>
 N (xu (storeAt 3 t45 t44)) w fun _ w =>
 k e w)
def c14_26_s:=rend14 c14_26 (fun N M G k e w =>
 N (xv (fieldAt 33 (e 1) 4)) w fun t50 w =>
 N (xv (loadAt 3 t50)) w fun t51 w =>
 N (xv (fieldAt 33 (e 3) 4)) w fun t52 w =>
 N (xu (storeAt 3 t52 t51)) w fun _ w =>
 k e w)
def c14_29_s:=rend14 c14_29 (fun N M G k e w =>
 N (xv (fieldAt 33 (e 1) 3)) w fun t58 w =>
 N (xv (loadAt 3 t58)) w fun t59 w =>
 N (xv (fieldAt 33 (e 3) 3)) w fun t60 w =>
 N (xu (storeAt 3 t60 t59)) w fun _ w =>
 k e w)
def c14_28_s:=cond14 c14_28 .skip 53 c14_29
def c14_36_s:=rend14 c14_36 (fun N M G k e w =>
 N (xv (xbin .eql 3 (.tmp 8) (.const (.int .i64 14)) (e 8) (.int .i64 14))) w fun t57 w =>
 M t57 fun t53 =>
 k (Env.p e 53 t53) w)
def c14_35_s:=cond14 c14_35 c14_36 53 .skip
def c14_34_s:=reg14 c14_34 c14_35 (fun N M G k e w =>
 N (xv (xbin .eql 3 (.tmp 8) (.const (.int .i64 13)) (e 8) (.int .i64 13))) w fun t56 w =>
 M t56 fun t53 =>
 k (Env.p e 53 t53) w)
def c14_33_s:=cond14 c14_33 c14_34 53 .skip
def c14_32_s:=reg14 c14_32 c14_33 (fun N M G k e w =>
 N (xv (xbin .eql 3 (.tmp 8) (.const (.int .i64 12)) (e 8) (.int .i64 12))) w fun t55 w =>
 M t55 fun t53 =>
 k (Env.p e 53 t53) w)
def c14_31_s:=cond14 c14_31 c14_32 53 .skip
def c14_30_s:=reg14 c14_30 c14_31 (fun N M G k e w =>
 N (xv (xbin .eql 3 (.tmp 8) (.const (.int .i64 11)) (e 8) (.int .i64 11))) w fun t54 w =>
 M t54 fun t53 =>
 k (Env.p e 53 t53) w)
def c14_27_s:=seq14 c14_27 c14_28 c14_30
def c14_25_s:=cond14 c14_25 c14_27 46 c14_26
def c14_41_s:=rend14 c14_41 (fun N M G k e w =>
 N (xv (xbin .eql 3 (.tmp 8) (.const (.int .i64 10)) (e 8) (.int .i64 10))) w fun t49 w =>
 M t49 fun t46 =>
 k (Env.p e 46 t46) w)
def c14_40_s:=cond14 c14_40 c14_41 46 .skip
def c14_39_s:=reg14 c14_39 c14_40 (fun N M G k e w =>
 N (xv (xbin .eql 3 (.tmp 8) (.const (.int .i64 9)) (e 8) (.int .i64 9))) w fun t48 w =>
 M t48 fun t46 =>
 k (Env.p e 46 t46) w)
def c14_38_s:=cond14 c14_38 c14_39 46 .skip
def c14_37_s:=reg14 c14_37 c14_38 (fun N M G k e w =>
 N (xv (xbin .eql 3 (.tmp 8) (.const (.int .i64 8)) (e 8) (.int .i64 8))) w fun t47 w =>
 M t47 fun t46 =>
 k (Env.p e 46 t46) w)
def c14_24_s:=seq14 c14_24 c14_25 c14_37
def c14_22_s:=cond14 c14_22 c14_24 40 c14_23
def c14_44_s:=rend14 c14_44 (fun N M G k e w =>
 N (xv (xbin .eql 3 (.tmp 8) (.const (.int .i64 7)) (e 8) (.int .i64 7))) w fun t42 w =>
 M t42 fun t40 =>
 k (Env.p e 40 t40) w)
def c14_43_s:=cond14 c14_43 c14_44 40 .skip
def c14_42_s:=reg14 c14_42 c14_43 (fun N M G k e w =>
 N (xv (xbin .eql 3 (.tmp 8) (.const (.int .i64 6)) (e 8) (.int .i64 6))) w fun t41 w =>
 M t41 fun t40 =>
 k (Env.p e 40 t40) w)
def c14_21_s:=seq14 c14_21 c14_22 c14_42
def c14_18_s:=cond14 c14_18 c14_21 32 c14_19
def c14_17_s:=reg14 c14_17 c14_18 (fun N M G k e w =>
 N (xv (xbin .eql 3 (.tmp 8) (.const (.int .i64 5)) (e 8) (.int .i64 5))) w fun t33 w =>
 M t33 fun t32 =>
 k (Env.p e 32 t32) w)
def c14_14_s:=cond14 c14_14 c14_17 24 c14_15
def c14_13_s:=reg14 c14_13 c14_14 (fun N M G k e w =>
 N (xv (xbin .eql 3 (.tmp 8) (.const (.int .i64 16)) (e 8) (.int .i64 16))) w fun t25 w =>
 M t25 fun t24 =>
 k (Env.p e 24 t24) w)
def c14_11_s:=cond14 c14_11 c14_13 17 c14_12
def c14_49_s:=rend14 c14_49 (fun N M G k e w =>
 N (xv (xbin .eql 3 (.tmp 8) (.const (.int .i64 15)) (e 8) (.int .i64 15))) w fun t20 w =>
 M t20 fun t17 =>
 k (Env.p e 17 t17) w)
def c14_48_s:=cond14 c14_48 c14_49 17 .skip
def c14_47_s:=reg14 c14_47 c14_48 (fun N M G k e w =>
 N (xv (xbin .eql 3 (.tmp 8) (.const (.int .i64 4)) (e 8) (.int .i64 4))) w fun t19 w =>
 M t19 fun t17 =>
 k (Env.p e 17 t17) w)
def c14_46_s:=cond14 c14_46 c14_47 17 .skip
def c14_45_s:=reg14 c14_45 c14_46 (fun N M G k e w =>
 N (xv (xbin .eql 3 (.tmp 8) (.const (.int .i64 3)) (e 8) (.int .i64 3))) w fun t18 w =>
 M t18 fun t17 =>
 k (Env.p e 17 t17) w)
def c14_10_s:=seq14 c14_10 c14_11 c14_45
def c14_7_s:=cond14 c14_7 c14_10 9 c14_8
def c14_6_s:=reg14 c14_6 c14_7 (fun N M G k e w =>
 N (xv (xbin .eql 3 (.tmp 8) (.const (.int .i64 2)) (e 8) (.int .i64 2))) w fun t10 w =>
 M t10 fun t9 =>
 k (Env.p e 9 t9) w)
def c14_5_s:=block14 c14_5 c14_6 0
def c14_4_s:=reg14 c14_4 c14_5 (fun N M G k e w =>
 N (xv (fieldAt 33 (e 1) 0)) w fun t7 w =>
 N (xv (loadAt 3 t7)) w fun t8 w =>
 k (Env.p e 8 t8) w)
def c14_2_s:=seq14 c14_2 c14_3 c14_4
def c14_1_s:=reg14 c14_1 c14_2 (fun N M G k e w =>
 N (xv (fieldAt 33 (e 1) 0)) w fun t4 w =>
 N (xv (loadAt 3 t4)) w fun t5 w =>
 N (xv (Instr.build 33 ([(0, t5)]).toArray)) w fun t6 w =>
 N (xv (Instr.alloc 33 true (.tuple #[]))) w fun t3 w =>
 N (xu (storeAt 33 t3 t6)) w fun _ w =>
 k (Env.p e 3 t3) w)
def c14_s:=reg14 c14 c14_1 (fun N M G k e w =>
 N (xv (Instr.box 33 (e 0))) w fun t1 w =>
 N (xv (Instr.alloc 33 true (.tuple #[]))) w fun t2 w =>
 k (Env.p (Env.p e 1 t1) 2 t2) w)
theorem call14 {a0 : Value} {w : World} {R : Value → World → Prop} (h : W3 Tryd.prog 62 V14 c14 (retQ Tryd.prog [.cell 2 33] R) (argE [a0]) w) : CallsN Tryd.prog 14 [a0] w R :=
 callsN_of_W3 (c := c14) (rs := [.cell 2 33]) V14 Tryd.ntmps14 (by rw [Tryd.results14]) mixed Tryd.func14 (by kernel_rfl) (by kernel_rfl) (by kernel_rfl) (by kernel_rfl) (by simp) h
def w3t_14:=w3t Tryd.prog 62 V14
def hk14 := aI @c14_3_s <| aI @c14_9_s <| aI @c14_8_s <| aI @c14_12_s <| aI @c14_16_s <| aI @c14_15_s <| aI @c14_20_s <| aI @c14_19_s <| aI @c14_23_s <| aI @c14_26_s <| aI @c14_29_s <| aI @c14_28_s <| aI @c14_36_s <| aI @c14_35_s <| aI @c14_34_s <| aI @c14_33_s <| aI @c14_32_s <| aI @c14_31_s <| aI @c14_30_s <| aI @c14_27_s <| aI @c14_25_s <| aI @c14_41_s <| aI @c14_40_s <| aI @c14_39_s <| aI @c14_38_s <| aI @c14_37_s <| aI @c14_24_s <| aI @c14_22_s <| aI @c14_44_s <| aI @c14_43_s <| aI @c14_42_s <| aI @c14_21_s <| aI @c14_18_s <| aI @c14_17_s <| aI @c14_14_s <| aI @c14_13_s <| aI @c14_11_s <| aI @c14_49_s <| aI @c14_48_s <| aI @c14_47_s <| aI @c14_46_s <| aI @c14_45_s <| aI @c14_10_s <| aI @c14_7_s <| aI @c14_6_s <| aI @c14_5_s <| aI @c14_4_s <| aI @c14_2_s <| aI @c14_1_s <| aI @c14_s <| @w3t_14
-- K14: ↓hk14
end
end Go.Proofs.YtbbjnplellanaaaDoor
