/- The equations of the code of some functions, written by the printer gen3.py: each is checked by the kernel. -/
import Derived.Test.YtldmkhakjnglmaaQ0
import Derived.Test.YtldmkhakjnglmaaCI
set_option linter.unusedVariables false
set_option linter.unusedSimpArgs false
set_option maxRecDepth 100000
namespace Go.Proofs.Ytldmkhakjnglmaa
open Go.VW
noncomputable section
set_option linter.defProp false
variable {N : NT} {T : T3T} {M : MT} {G : GT} {H : HT} {k : KT} {Q : Exit → Env → World → Prop} {e el eg : Env} {w u0 u1 u2 u3 u4 u5 u6 u7 u8 u9 : World}
/-! ### vouch/table.New -/
def V8 : Nat → Bool := fun i => [0].elem i
noncomputable def c8:Code:=(Try.f8.body.getD .skip)
noncomputable def o8_0:Array Oper:=rO (cL c8)
noncomputable def c8_1:Code:=(cR c8)
noncomputable def o8_1:Array Oper:=rO (cL c8_1)
noncomputable def c8_1_s:=@s_reg Try.prog 3 V8 c8_1 .ret 1 o8_1 (fun N M G k e w =>
    N (xv (Instr.build 56 ([]).toArray)) w fun t1 w =>
    N (xv (Instr.box 56 t1)) w fun t2 w =>
    M t2 fun t0 =>
    k (Env.p e 0 t0) w) (by kernel_rfl) (by intros; kernel_rfl)
noncomputable def c8_s:=@s_reg Try.prog 3 V8 c8 c8_1 0 o8_0 (fun N M G k e w =>
    M (Value.pointer none) fun t0 =>
    k (Env.p e 0 t0) w) (by kernel_rfl) (by intros; kernel_rfl)
theorem call8 {w : World} {R : Value → World → Prop} (h : W3 Try.prog 3 V8 c8 (retQ Try.prog [.tmp 0] R) (argE []) w) : CallsN Try.prog 8 [] w R :=
  callsN_of_W3 (c := c8) (rs := [.tmp 0]) V8 Try.ntmps8 (by rw [Try.results8]) mixed Try.func8 (by kernel_rfl) (by kernel_rfl) (by kernel_rfl) (by kernel_rfl) (by simp) h
noncomputable def w3t_8:=w3t Try.prog 3 V8
noncomputable def hk8 := And.intro @c8_1_s <| And.intro @c8_s <| @w3t_8
-- K8: ↓hk8
/-! ### (*vouch/table.Table) . Len -/
def V10 : Nat → Bool := fun i => [0, 2, 4].elem i
noncomputable def c10:Code:=(Try.f10.body.getD .skip)
noncomputable def o10_0:Array Oper:=rO (cL c10)
noncomputable def c10_1:Code:=(cR c10)
noncomputable def c10_2:Code:=(cR c10_1)
noncomputable def o10_3:Array Oper:=rO (cL c10_2)
noncomputable def c10_3:Code:=(cL c10_1)
noncomputable def o10_1:Array Oper:=rO (cL c10_3)
noncomputable def c10_4:Code:=(cR c10_3)
noncomputable def c10_5:Code:=(cL c10_4)
noncomputable def o10_2:Array Oper:=rO (cL c10_5)
noncomputable def c10_2_s:=@s_reg Try.prog 9 V10 c10_2 .ret 3 o10_3 (fun N M G k e w =>
    M (e 0) fun t5 =>
    N (xnil t5) w fun t6 w =>
    N (xv (Instr.fieldAt 56 t6 1)) w fun t7 w =>
    N (xv (Instr.loadAt 3 t7)) w fun t8 w =>
    M t8 fun t2 =>
    k (Env.p e 2 t2) w) (by kernel_rfl) (by intros; kernel_rfl)
noncomputable def c10_5_s:=@s_reg Try.prog 9 V10 c10_5 .ret 2 o10_2 (fun N M G k e w =>
    M (Value.int IntKind.i64 0) fun t2 =>
    k (Env.p e 2 t2) w) (by kernel_rfl) (by intros; kernel_rfl)
noncomputable def c10_4_s:=@s_cond Try.prog 9 V10 c10_4 .skip 4 c10_5 (by kernel_rfl) (by kernel_rfl)
noncomputable def c10_3_s:=@s_reg Try.prog 9 V10 c10_3 c10_4 1 o10_1 (fun N M G k e w =>
    M (e 0) fun t3 =>
    N (xv (xbin BinOp.eql 24 (Operand.tmp 3) (Operand.const (Value.pointer none)) t3 (Value.pointer none))) w fun t4 w =>
    k (Env.p e 4 t4) w) (by kernel_rfl) (by intros; kernel_rfl)
noncomputable def c10_1_s:=@s_seq Try.prog 9 V10 c10_1 c10_2 c10_3 (by kernel_rfl)
noncomputable def c10_s:=@s_reg Try.prog 9 V10 c10 c10_1 0 o10_0 (fun N M G k e w =>
    M (Value.int IntKind.i64 0) fun t2 =>
    k (Env.p e 2 t2) w) (by kernel_rfl) (by intros; kernel_rfl)
theorem call10 {a0 : Value} {w : World} {R : Value → World → Prop} (h : W3 Try.prog 9 V10 c10 (retQ Try.prog [.tmp 2] R) (argE [a0]) w) : CallsN Try.prog 10 [a0] w R :=
  callsN_of_W3 (c := c10) (rs := [.tmp 2]) V10 Try.ntmps10 (by rw [Try.results10]) mixed Try.func10 (by kernel_rfl) (by kernel_rfl) (by kernel_rfl) (by kernel_rfl) (by simp) h
noncomputable def w3t_10:=w3t Try.prog 9 V10
noncomputable def hk10 := And.intro @c10_2_s <| And.intro @c10_5_s <| And.intro @c10_4_s <| And.intro @c10_3_s <| And.intro @c10_1_s <| And.intro @c10_s <| @w3t_10
-- K10: ↓hk10
/-! ### (*vouch/table.Table) . Bytes -/
def V11 : Nat → Bool := fun i => [0, 2, 4].elem i
noncomputable def c11:Code:=(Try.f11.body.getD .skip)
noncomputable def o11_0:Array Oper:=rO (cL c11)
noncomputable def c11_1:Code:=(cR c11)
noncomputable def c11_2:Code:=(cR c11_1)
noncomputable def o11_3:Array Oper:=rO (cL c11_2)
noncomputable def c11_3:Code:=(cL c11_1)
noncomputable def o11_1:Array Oper:=rO (cL c11_3)
noncomputable def c11_4:Code:=(cR c11_3)
noncomputable def c11_5:Code:=(cL c11_4)
noncomputable def o11_2:Array Oper:=rO (cL c11_5)
noncomputable def c11_2_s:=@s_reg Try.prog 9 V11 c11_2 .ret 3 o11_3 (fun N M G k e w =>
    M (e 0) fun t5 =>
    N (xnil t5) w fun t6 w =>
    N (xv (Instr.fieldAt 56 t6 2)) w fun t7 w =>
    N (xv (Instr.loadAt 3 t7)) w fun t8 w =>
    M t8 fun t2 =>
    k (Env.p e 2 t2) w) (by kernel_rfl) (by intros; kernel_rfl)
noncomputable def c11_5_s:=@s_reg Try.prog 9 V11 c11_5 .ret 2 o11_2 (fun N M G k e w =>
    M (Value.int IntKind.i64 0) fun t2 =>
    k (Env.p e 2 t2) w) (by kernel_rfl) (by intros; kernel_rfl)
noncomputable def c11_4_s:=@s_cond Try.prog 9 V11 c11_4 .skip 4 c11_5 (by kernel_rfl) (by kernel_rfl)
noncomputable def c11_3_s:=@s_reg Try.prog 9 V11 c11_3 c11_4 1 o11_1 (fun N M G k e w =>
    M (e 0) fun t3 =>
    N (xv (xbin BinOp.eql 24 (Operand.tmp 3) (Operand.const (Value.pointer none)) t3 (Value.pointer none))) w fun t4 w =>
    k (Env.p e 4 t4) w) (by kernel_rfl) (by intros; kernel_rfl)
noncomputable def c11_1_s:=@s_seq Try.prog 9 V11 c11_1 c11_2 c11_3 (by kernel_rfl)
noncomputable def c11_s:=@s_reg Try.prog 9 V11 c11 c11_1 0 o11_0 (fun N M G k e w =>
    M (Value.int IntKind.i64 0) fun t2 =>
    k (Env.p e 2 t2) w) (by kernel_rfl) (by intros; kernel_rfl)
theorem call11 {a0 : Value} {w : World} {R : Value → World → Prop} (h : W3 Try.prog 9 V11 c11 (retQ Try.prog [.tmp 2] R) (argE [a0]) w) : CallsN Try.prog 11 [a0] w R :=
  callsN_of_W3 (c := c11) (rs := [.tmp 2]) V11 Try.ntmps11 (by rw [Try.results11]) mixed Try.func11 (by kernel_rfl) (by kernel_rfl) (by kernel_rfl) (by kernel_rfl) (by simp) h
noncomputable def w3t_11:=w3t Try.prog 9 V11
noncomputable def hk11 := And.intro @c11_2_s <| And.intro @c11_5_s <| And.intro @c11_4_s <| And.intro @c11_3_s <| And.intro @c11_1_s <| And.intro @c11_s <| @w3t_11
-- K11: ↓hk11
/-! ### vouch/vouchlaw10.fixed -/
def V7 : Nat → Bool := fun i => [0, 1, 2, 3, 33].elem i
noncomputable def c7:Code:=(Try.f7.body.getD .skip)
noncomputable def o7_0:Array Oper:=rO (cL c7)
noncomputable def c7_1:Code:=(cR c7)
noncomputable def o7_1:Array Oper:=rO (cL c7_1)
noncomputable def c7_2:Code:=(cR c7_1)
noncomputable def c7_3:Code:=(cR c7_2)
noncomputable def o7_4:Array Oper:=rO (cL c7_3)
noncomputable def c7_4:Code:=(cR c7_3)
noncomputable def o7_5:Array Oper:=rO (cL c7_4)
noncomputable def c7_5:Code:=(cL c7_2)
noncomputable def o7_2:Array Oper:=rO (cL c7_5)
noncomputable def c7_6:Code:=(cR c7_5)
noncomputable def c7_7:Code:=(cL c7_6)
noncomputable def o7_3:Array Oper:=rO (cL c7_7)
noncomputable def c7_4_s:=@s_reg Try.prog 59 V7 c7_4 .ret 5 o7_5 (fun N M G k e w =>
    M (e 3) fun t40 =>
    M t40 fun t41 =>
    G (isB t41 true) (fun K => N (xv (Instr.fieldAt 36 (e 2) 0)) w K) (fun t42 w =>
    G (isB t41 true) (fun K => N (xv (Instr.fieldAt 34 t42 2)) w K) (fun t43 w =>
    G (isB t41 true) (fun K => N (xv (Instr.loadAt 2 t43)) w K) (fun t44 w =>
    G (isB t41 true) (fun K => N (xv (xbin BinOp.eql 2 (Operand.tmp 44) (Operand.const (Value.int IntKind.i64 3)) t44 (Value.int IntKind.i64 3))) w K) (fun t45 w =>
    N (xpick t41 t45 (Value.bool false)) w fun t46 w =>
    M t46 fun t47 =>
    G (isB t47 true) (fun K => M (e 1) fun v => K v w) (fun t48 w =>
    G (isB t47 true) (fun K => N (xcall (Value.func (Fn.func 18) #[] #[]) [t48, (Value.string ⟨#[107]⟩)]) w K) (fun t49 w =>
    G (isB t47 true) (fun K => N (builtin Builtin.len #[27] 3 ([false]).toArray ([t49]).toArray) w K) (fun t50 w =>
    G (isB t47 true) (fun K => N (xv (xbin BinOp.eql 3 (Operand.tmp 50) (Operand.const (Value.int IntKind.i64 2)) t50 (Value.int IntKind.i64 2))) w K) (fun t51 w =>
    N (xpick t47 t51 (Value.bool false)) w fun t52 w =>
    M t52 fun t53 =>
    G (isB t53 true) (fun K => M (e 1) fun v => K v w) (fun t54 w =>
    G (isB t53 true) (fun K => N (xcall (Value.func (Fn.func 14) #[] #[]) [t54]) w K) (fun t55 w =>
    G (isB t53 true) (fun K => N (builtin Builtin.len #[27] 3 ([false]).toArray ([t55]).toArray) w K) (fun t56 w =>
    G (isB t53 true) (fun K => N (xv (xbin BinOp.eql 3 (Operand.tmp 56) (Operand.const (Value.int IntKind.i64 2)) t56 (Value.int IntKind.i64 2))) w K) (fun t57 w =>
    N (xpick t53 t57 (Value.bool false)) w fun t58 w =>
    M t58 fun t0 =>
    k (Env.p e 0 t0) w) w) w) w) w) w) w) w) w) w) w) w) w) (by kernel_rfl) (by intros; kernel_rfl)
noncomputable def c7_3_s:=@s_reg Try.prog 59 V7 c7_3 c7_4 4 o7_4 (fun N M G k e w =>
    M (e 1) fun t35 =>
    N (xv (Instr.build 38 ([(0, (Value.int IntKind.i64 0)), (1, (Value.int IntKind.i64 4611686018427387904))]).toArray)) w fun t36 w =>
    N (xcall (Value.func (Fn.func 16) #[] #[]) [t35, (Value.string ⟨#[107]⟩), (Value.int IntKind.i64 8), t36]) w fun t37 w =>
    M t37 fun t34 =>
    N (xv (Instr.extract t34 0)) w fun t38 w =>
    N (xv (Instr.extract t34 1)) w fun t39 w =>
    N (xv (Instr.alloc 36 true (.tuple #[]))) w fun t2 w =>
    N (xu (Instr.storeAt 36 t2 t38)) w fun _ w =>
    M t39 fun t3 =>
    k (Env.p (Env.p e 2 t2) 3 t3) w) (by kernel_rfl) (by intros; kernel_rfl)
noncomputable def c7_7_s:=@s_reg Try.prog 59 V7 c7_7 .ret 3 o7_3 (fun N M G k e w =>
    M (Value.bool false) fun t0 =>
    k (Env.p e 0 t0) w) (by kernel_rfl) (by intros; kernel_rfl)
noncomputable def c7_6_s:=@s_cond Try.prog 59 V7 c7_6 .skip 33 c7_7 (by kernel_rfl) (by kernel_rfl)
noncomputable def c7_5_s:=@s_reg Try.prog 59 V7 c7_5 c7_6 2 o7_2 (fun N M G k e w =>
    M (e 1) fun t5 =>
    N (xv (xbin BinOp.eql 24 (Operand.tmp 5) (Operand.const (Value.pointer none)) t5 (Value.pointer none))) w fun t6 w =>
    M t6 fun t7 =>
    G (isB t7 false) (fun K => M (e 1) fun v => K v w) (fun t8 w =>
    G (isB t7 false) (fun K => N (xcall (Value.func (Fn.func 19) #[] #[]) [(Value.string ⟨#[107]⟩), (Value.int IntKind.i64 3), (Value.int IntKind.i64 7)]) w K) (fun t9 w =>
    G (isB t7 false) (fun K => N (xcall (Value.func (Fn.func 15) #[] #[]) [t8, t9]) w K) (fun t10 w =>
    G (isB t7 false) (fun K => N (xv (Op.unary UnOp.not t10)) w K) (fun t11 w =>
    N (xpick t7 (Value.bool true) t11) w fun t12 w =>
    M t12 fun t13 =>
    G (isB t13 false) (fun K => M (e 1) fun v => K v w) (fun t14 w =>
    G (isB t13 false) (fun K => N (xcall (Value.func (Fn.func 19) #[] #[]) [(Value.string ⟨#[107]⟩), (Value.int IntKind.i64 9), (Value.int IntKind.i64 4611686018427387904)]) w K) (fun t15 w =>
    G (isB t13 false) (fun K => N (xcall (Value.func (Fn.func 15) #[] #[]) [t14, t15]) w K) (fun t16 w =>
    G (isB t13 false) (fun K => N (xv (Op.unary UnOp.not t16)) w K) (fun t17 w =>
    N (xpick t13 (Value.bool true) t17) w fun t18 w =>
    M t18 fun t19 =>
    G (isB t19 false) (fun K => M (e 1) fun v => K v w) (fun t20 w =>
    G (isB t19 false) (fun K => N (xcall (Value.func (Fn.func 19) #[] #[]) [(Value.string ⟨#[107]⟩), (Value.int IntKind.i64 3), (Value.int IntKind.i64 3)]) w K) (fun t21 w =>
    G (isB t19 false) (fun K => N (xcall (Value.func (Fn.func 15) #[] #[]) [t20, t21]) w K) (fun t22 w =>
    N (xpick t19 (Value.bool true) t22) w fun t23 w =>
    M t23 fun t24 =>
    G (isB t24 false) (fun K => M (e 1) fun v => K v w) (fun t25 w =>
    G (isB t24 false) (fun K => N (xcall (Value.func (Fn.func 10) #[] #[]) [t25]) w K) (fun t26 w =>
    G (isB t24 false) (fun K => N (xv (xbin BinOp.neq 3 (Operand.tmp 26) (Operand.const (Value.int IntKind.i64 2)) t26 (Value.int IntKind.i64 2))) w K) (fun t27 w =>
    N (xpick t24 (Value.bool true) t27) w fun t28 w =>
    M t28 fun t29 =>
    G (isB t29 false) (fun K => M (e 1) fun v => K v w) (fun t30 w =>
    G (isB t29 false) (fun K => N (xcall (Value.func (Fn.func 11) #[] #[]) [t30]) w K) (fun t31 w =>
    G (isB t29 false) (fun K => N (xv (xbin BinOp.neq 3 (Operand.tmp 31) (Operand.const (Value.int IntKind.i64 66)) t31 (Value.int IntKind.i64 66))) w K) (fun t32 w =>
    N (xpick t29 (Value.bool true) t32) w fun t33 w =>
    k (Env.p e 33 t33) w) w) w) w) w) w) w) w) w) w) w) w) w) w) w) w) w) w) (by kernel_rfl) (by intros; kernel_rfl)
noncomputable def c7_2_s:=@s_seq Try.prog 59 V7 c7_2 c7_3 c7_5 (by kernel_rfl)
noncomputable def c7_1_s:=@s_reg Try.prog 59 V7 c7_1 c7_2 1 o7_1 (fun N M G k e w =>
    N (xcall (Value.func (Fn.func 8) #[] #[]) []) w fun t4 w =>
    M t4 fun t1 =>
    k (Env.p e 1 t1) w) (by kernel_rfl) (by intros; kernel_rfl)
noncomputable def c7_s:=@s_reg Try.prog 59 V7 c7 c7_1 0 o7_0 (fun N M G k e w =>
    M (Value.bool false) fun t0 =>
    k (Env.p e 0 t0) w) (by kernel_rfl) (by intros; kernel_rfl)
theorem call7 {w : World} {R : Value → World → Prop} (h : W3 Try.prog 59 V7 c7 (retQ Try.prog [.tmp 0] R) (argE []) w) : CallsN Try.prog 7 [] w R :=
  callsN_of_W3 (c := c7) (rs := [.tmp 0]) V7 Try.ntmps7 (by rw [Try.results7]) mixed Try.func7 (by kernel_rfl) (by kernel_rfl) (by kernel_rfl) (by kernel_rfl) (by simp) h
noncomputable def w3t_7:=w3t Try.prog 59 V7
noncomputable def hk7 := And.intro @c7_4_s <| And.intro @c7_3_s <| And.intro @c7_7_s <| And.intro @c7_6_s <| And.intro @c7_5_s <| And.intro @c7_2_s <| And.intro @c7_1_s <| And.intro @c7_s <| @w3t_7
-- K7: ↓hk7
/-! ### (*vouch/table.Table) . All -/
def V14 : Nat → Bool := fun i => [0, 2, 3, 5, 7, 13, 14, 15, 16].elem i
noncomputable def c14:Code:=(Try.f14.body.getD .skip)
noncomputable def o14_0:Array Oper:=rO (cL c14)
noncomputable def c14_1:Code:=(cR c14)
noncomputable def c14_2:Code:=(cR c14_1)
noncomputable def o14_3:Array Oper:=rO (cL c14_2)
noncomputable def c14_3:Code:=(cR c14_2)
noncomputable def c14_4:Code:=(cR c14_3)
noncomputable def o14_9:Array Oper:=rO (cL c14_4)
noncomputable def c14_5:Code:=(cL c14_3)
noncomputable def o14_4:Array Oper:=rO (cL c14_5)
noncomputable def c14_6:Code:=(cR c14_5)
noncomputable def c14_7:Code:=(cL c14_6)
noncomputable def c14_8:Code:=(cL c14_7)
noncomputable def o14_5:Array Oper:=rO (cL c14_8)
noncomputable def c14_9:Code:=(cR c14_8)
noncomputable def c14_10:Code:=(cR c14_9)
noncomputable def c14_11:Code:=(cR c14_10)
noncomputable def o14_8:Array Oper:=rO c14_11
noncomputable def c14_12:Code:=(cL c14_10)
noncomputable def c14_13:Code:=(cL c14_12)
noncomputable def o14_6:Array Oper:=rO (cL c14_13)
noncomputable def c14_14:Code:=(cR c14_13)
noncomputable def o14_7:Array Oper:=rO c14_14
noncomputable def c14_15:Code:=(cL c14_9)
noncomputable def c14_16:Code:=(cL c14_1)
noncomputable def o14_1:Array Oper:=rO (cL c14_16)
noncomputable def c14_17:Code:=(cR c14_16)
noncomputable def c14_18:Code:=(cL c14_17)
noncomputable def o14_2:Array Oper:=rO (cL c14_18)
noncomputable def c14_4_s:=@s_reg Try.prog 29 V14 c14_4 .ret 9 o14_9 (fun N M G k e w =>
    M (e 3) fun t28 =>
    M t28 fun t2 =>
    k (Env.p e 2 t2) w) (by kernel_rfl) (by intros; kernel_rfl)
noncomputable def c14_11_s:=@s_rend Try.prog 29 V14 c14_11 8 o14_8 (fun N M G k e w =>
    N (xv (xbin BinOp.add 3 (Operand.tmp 15) (Operand.const (Value.int IntKind.i64 1)) (e 15) (Value.int IntKind.i64 1))) w fun t27 w =>
    M t27 fun t15 =>
    k (Env.p e 15 t15) w) (by kernel_rfl) (by intros; kernel_rfl)
noncomputable def c14_14_s:=@s_rend Try.prog 29 V14 c14_14 7 o14_7 (fun N M G k e w =>
    M (e 3) fun t19 =>
    M (e 0) fun t20 =>
    N (xnil t20) w fun t21 w =>
    N (xv (Instr.fieldAt 56 t21 0)) w fun t22 w =>
    N (xv (Instr.loadAt 54 t22)) w fun t23 w =>
    M (e 5) fun t24 =>
    N (xv (Instr.lookup 54 t23 t24 false)) w fun t25 w =>
    N (builtin Builtin.append #[27, 27] 27 ([false, false]).toArray ([t19, t25]).toArray) w fun t26 w =>
    M t26 fun t3 =>
    k (Env.p e 3 t3) w) (by kernel_rfl) (by intros; kernel_rfl)
noncomputable def c14_13_s:=@s_reg Try.prog 29 V14 c14_13 c14_14 6 o14_6 (fun N M G k e w =>
    N (xv (Instr.indexAt 59 (e 13) (e 15))) w fun t17 w =>
    N (xv (Instr.loadAt 9 t17)) w fun t18 w =>
    M t18 fun t5 =>
    k (Env.p e 5 t5) w) (by kernel_rfl) (by intros; kernel_rfl)
noncomputable def c14_12_s:=@s_block Try.prog 29 V14 c14_12 c14_13 1 (by kernel_rfl)
noncomputable def c14_10_s:=@s_seq Try.prog 29 V14 c14_10 c14_11 c14_12 (by kernel_rfl)
noncomputable def c14_15_s:=@s_cond Try.prog 29 V14 c14_15 (.exit 0) 16 .skip (by kernel_rfl) (by kernel_rfl)
noncomputable def c14_9_s:=@s_seq Try.prog 29 V14 c14_9 c14_10 c14_15 (by kernel_rfl)
noncomputable def c14_8_s:=@s_reg Try.prog 29 V14 c14_8 c14_9 5 o14_5 (fun N M G k e w =>
    N (xv (xbin BinOp.lss 3 (Operand.tmp 15) (Operand.tmp 14) (e 15) (e 14))) w fun t16 w =>
    k (Env.p e 16 t16) w) (by kernel_rfl) (by intros; kernel_rfl)
noncomputable def c14_7_s:=@s_loop Try.prog 29 V14 c14_7 c14_8 (by kernel_rfl)
noncomputable def c14_6_s:=@s_block Try.prog 29 V14 c14_6 c14_7 0 (by kernel_rfl)
noncomputable def c14_5_s:=@s_reg Try.prog 29 V14 c14_5 c14_6 4 o14_4 (fun N M G k e w =>
    M (e 0) fun t8 =>
    N (xnil t8) w fun t9 w =>
    N (xv (Instr.fieldAt 56 t9 0)) w fun t10 w =>
    N (xv (Instr.loadAt 54 t10)) w fun t11 w =>
    N (xcall (Value.func (Fn.func 29) #[] #[]) [t11]) w fun t12 w =>
    N (xcall (Value.func (Fn.func 28) #[] #[]) [t12]) w fun t13 w =>
    N (builtin Builtin.len #[59] 3 ([false]).toArray ([t13]).toArray) w fun t14 w =>
    M (Value.int IntKind.i64 0) fun t15 =>
    k (Env.p (Env.p (Env.p e 13 t13) 14 t14) 15 t15) w) (by kernel_rfl) (by intros; kernel_rfl)
noncomputable def c14_3_s:=@s_seq Try.prog 29 V14 c14_3 c14_4 c14_5 (by kernel_rfl)
noncomputable def c14_2_s:=@s_reg Try.prog 29 V14 c14_2 c14_3 3 o14_3 (fun N M G k e w =>
    M (Value.slice none 0 0) fun t3 =>
    k (Env.p e 3 t3) w) (by kernel_rfl) (by intros; kernel_rfl)
noncomputable def c14_18_s:=@s_reg Try.prog 29 V14 c14_18 .ret 2 o14_2 (fun N M G k e w =>
    M (Value.slice none 0 0) fun t2 =>
    k (Env.p e 2 t2) w) (by kernel_rfl) (by intros; kernel_rfl)
noncomputable def c14_17_s:=@s_cond Try.prog 29 V14 c14_17 .skip 7 c14_18 (by kernel_rfl) (by kernel_rfl)
noncomputable def c14_16_s:=@s_reg Try.prog 29 V14 c14_16 c14_17 1 o14_1 (fun N M G k e w =>
    M (e 0) fun t6 =>
    N (xv (xbin BinOp.eql 24 (Operand.tmp 6) (Operand.const (Value.pointer none)) t6 (Value.pointer none))) w fun t7 w =>
    k (Env.p e 7 t7) w) (by kernel_rfl) (by intros; kernel_rfl)
noncomputable def c14_1_s:=@s_seq Try.prog 29 V14 c14_1 c14_2 c14_16 (by kernel_rfl)
noncomputable def c14_s:=@s_reg Try.prog 29 V14 c14 c14_1 0 o14_0 (fun N M G k e w =>
    M (Value.slice none 0 0) fun t2 =>
    k (Env.p e 2 t2) w) (by kernel_rfl) (by intros; kernel_rfl)
theorem call14 {a0 : Value} {w : World} {R : Value → World → Prop} (h : W3 Try.prog 29 V14 c14 (retQ Try.prog [.tmp 2] R) (argE [a0]) w) : CallsN Try.prog 14 [a0] w R :=
  callsN_of_W3 (c := c14) (rs := [.tmp 2]) V14 Try.ntmps14 (by rw [Try.results14]) mixed Try.func14 (by kernel_rfl) (by kernel_rfl) (by kernel_rfl) (by kernel_rfl) (by simp) h
noncomputable def w3t_14:=w3t Try.prog 29 V14
noncomputable def hk14 := And.intro @c14_4_s <| And.intro @c14_11_s <| And.intro @c14_14_s <| And.intro @c14_13_s <| And.intro @c14_12_s <| And.intro @c14_10_s <| And.intro @c14_15_s <| And.intro @c14_9_s <| And.intro @c14_8_s <| And.intro @c14_7_s <| And.intro @c14_6_s <| And.intro @c14_5_s <| And.intro @c14_3_s <| And.intro @c14_2_s <| And.intro @c14_18_s <| And.intro @c14_17_s <| And.intro @c14_16_s <| And.intro @c14_1_s <| And.intro @c14_s <| @w3t_14
-- K14: ↓hk14
/-! ### (*vouch/table.Table) . Find -/
def V16 : Nat → Bool := fun i => [0, 1, 2, 3, 7, 8, 9, 10, 11, 19, 29].elem i
noncomputable def c16:Code:=(Try.f16.body.getD .skip)
noncomputable def o16_0:Array Oper:=rO (cL c16)
noncomputable def c16_1:Code:=(cR c16)
noncomputable def o16_1:Array Oper:=rO (cL c16_1)
noncomputable def c16_2:Code:=(cR c16_1)
noncomputable def c16_3:Code:=(cR c16_2)
noncomputable def o16_7:Array Oper:=rO (cL c16_3)
noncomputable def c16_4:Code:=(cL c16_2)
noncomputable def o16_2:Array Oper:=rO (cL c16_4)
noncomputable def c16_5:Code:=(cR c16_4)
noncomputable def c16_6:Code:=(cL c16_5)
noncomputable def c16_7:Code:=(cL c16_6)
noncomputable def c16_8:Code:=(cR c16_7)
noncomputable def c16_9:Code:=(cR c16_8)
noncomputable def o16_4:Array Oper:=rO c16_9
noncomputable def c16_10:Code:=(cL c16_8)
noncomputable def c16_11:Code:=(cL c16_10)
noncomputable def o16_5:Array Oper:=rO (cL c16_11)
noncomputable def b16_5:List Row:=[(0, 0, 1024, 23, true), (0, 0, 2048, 24, true), (3, 3, 12582912, 25, true), (4, 7, 16777216, 26, true), (8, 15, 33554432, 27, true), (0, 0, 4, 28, true), (0, 0, 128, 29, true), (112, 127, 469762048, 30, false)]
noncomputable def c16_12:Code:=(cR c16_11)
noncomputable def c16_13:Code:=(cL c16_12)
noncomputable def o16_6:Array Oper:=rO (cL c16_13)
noncomputable def c16_14:Code:=(cL c16_7)
noncomputable def o16_3:Array Oper:=rO (cL c16_14)
noncomputable def c16_15:Code:=(cR c16_14)
noncomputable def c16_3_s:=@s_reg Try.prog 35 V16 c16_3 .ret 7 o16_7 (fun N M G k e w =>
    N (xv (Instr.build 36 ([]).toArray)) w fun t34 w =>
    N (xu (Instr.storeAt 36 (e 8) t34)) w fun _ w =>
    M (Value.bool false) fun t9 =>
    k (Env.p e 9 t9) w) (by kernel_rfl) (by intros; kernel_rfl)
noncomputable def c16_9_s:=@s_rend Try.prog 35 V16 c16_9 4 o16_4 (fun N M G k e w =>
    M (e 11) fun t20 =>
    N (xv (xbin BinOp.sub 3 (Operand.tmp 20) (Operand.const (Value.int IntKind.i64 1)) t20 (Value.int IntKind.i64 1))) w fun t21 w =>
    M t21 fun t11 =>
    k (Env.p e 11 t11) w) (by kernel_rfl) (by intros; kernel_rfl)
noncomputable def c16_13_s:=@s_reg Try.prog 35 V16 c16_13 .ret 6 o16_6 (fun N M G k e w =>
    M (e 10) fun t30 =>
    M (e 11) fun t31 =>
    N (xv (Instr.indexAt 27 t30 t31)) w fun t32 w =>
    N (xv (Instr.loadAt 36 t32)) w fun t33 w =>
    N (xu (Instr.storeAt 36 (e 8) t33)) w fun _ w =>
    M (Value.bool true) fun t9 =>
    k (Env.p e 9 t9) w) (by kernel_rfl) (by intros; kernel_rfl)
noncomputable def c16_12_s:=@s_cond Try.prog 35 V16 c16_12 .skip 29 c16_13 (by kernel_rfl) (by kernel_rfl)
noncomputable def c16_11_s:=@s_drw Try.prog 35 V16 c16_11 c16_12 5 o16_5 b16_5 8 (fun N T M G H k e w =>
    M (e 10) fun t22 =>
    M (e 11) fun t23 =>
    T (FrX none w) (xv (Instr.indexAt 27 t22 t23)) fun t24 =>
    T (FrX none w) (xv (Instr.fieldAt 36 t24 0)) fun t25 =>
    T (FrX (some []) w) (xv (Instr.loadAt 34 t25)) fun t26 =>
    M (e 2) fun t27 =>
    T (FrX (some []) w) (xv (Instr.loadAt 38 (e 7))) fun t28 =>
    N (xcall (Value.func (Fn.func 35) #[] #[]) [t26, t27, t28]) w fun t29 w7 =>
    k (Env.p e 29 t29) w7) (by kernel_rfl) (by kernel_rfl) (by kernel_rfl) (by intros; kernel_rfl)
noncomputable def c16_10_s:=@s_block Try.prog 35 V16 c16_10 c16_11 1 (by kernel_rfl)
noncomputable def c16_8_s:=@s_seq Try.prog 35 V16 c16_8 c16_9 c16_10 (by kernel_rfl)
noncomputable def c16_15_s:=@s_cond Try.prog 35 V16 c16_15 (.exit 0) 19 .skip (by kernel_rfl) (by kernel_rfl)
noncomputable def c16_14_s:=@s_reg Try.prog 35 V16 c16_14 c16_15 3 o16_3 (fun N M G k e w =>
    M (e 11) fun t18 =>
    N (xv (xbin BinOp.geq 3 (Operand.tmp 18) (Operand.const (Value.int IntKind.i64 0)) t18 (Value.int IntKind.i64 0))) w fun t19 w =>
    k (Env.p e 19 t19) w) (by kernel_rfl) (by intros; kernel_rfl)
noncomputable def c16_7_s:=@s_seq Try.prog 35 V16 c16_7 c16_8 c16_14 (by kernel_rfl)
noncomputable def c16_6_s:=@s_loop Try.prog 35 V16 c16_6 c16_7 (by kernel_rfl)
noncomputable def c16_5_s:=@s_block Try.prog 35 V16 c16_5 c16_6 0 (by kernel_rfl)
noncomputable def c16_4_s:=@s_reg Try.prog 35 V16 c16_4 c16_5 2 o16_2 (fun N M G k e w =>
    M (e 10) fun t15 =>
    N (builtin Builtin.len #[27] 3 ([false]).toArray ([t15]).toArray) w fun t16 w =>
    N (xv (xbin BinOp.sub 3 (Operand.tmp 16) (Operand.const (Value.int IntKind.i64 1)) t16 (Value.int IntKind.i64 1))) w fun t17 w =>
    M t17 fun t11 =>
    k (Env.p e 11 t11) w) (by kernel_rfl) (by intros; kernel_rfl)
noncomputable def c16_2_s:=@s_seq Try.prog 35 V16 c16_2 c16_3 c16_4 (by kernel_rfl)
noncomputable def c16_1_s:=@s_reg Try.prog 35 V16 c16_1 c16_2 1 o16_1 (fun N M G k e w =>
    M (e 0) fun t12 =>
    M (e 1) fun t13 =>
    N (xcall (Value.func (Fn.func 34) #[] #[]) [t12, t13]) w fun t14 w =>
    M t14 fun t10 =>
    k (Env.p e 10 t10) w) (by kernel_rfl) (by intros; kernel_rfl)
noncomputable def c16_s:=@s_reg Try.prog 35 V16 c16 c16_1 0 o16_0 (fun N M G k e w =>
    N (xv (Instr.box 38 (e 3))) w fun t7 w =>
    N (xv (Instr.alloc 36 true (.tuple #[]))) w fun t8 w =>
    M (Value.bool false) fun t9 =>
    k (Env.p (Env.p (Env.p e 7 t7) 8 t8) 9 t9) w) (by kernel_rfl) (by intros; kernel_rfl)
theorem call16 {a0 a1 a2 a3 : Value} {w : World} {R : Value → World → Prop} (h : W3 Try.prog 35 V16 c16 (retQ Try.prog [.cell 8 36, .tmp 9] R) (argE [a0, a1, a2, a3]) w) : CallsN Try.prog 16 [a0, a1, a2, a3] w R :=
  callsN_of_W3 (c := c16) (rs := [.cell 8 36, .tmp 9]) V16 Try.ntmps16 (by rw [Try.results16]) mixed Try.func16 (by kernel_rfl) (by kernel_rfl) (by kernel_rfl) (by kernel_rfl) (by simp) h
noncomputable def w3t_16:=w3t Try.prog 35 V16
noncomputable def hk16 := And.intro @c16_3_s <| And.intro @c16_9_s <| And.intro @c16_13_s <| And.intro @c16_12_s <| And.intro @c16_11_s <| And.intro @c16_10_s <| And.intro @c16_8_s <| And.intro @c16_15_s <| And.intro @c16_14_s <| And.intro @c16_7_s <| And.intro @c16_6_s <| And.intro @c16_5_s <| And.intro @c16_4_s <| And.intro @c16_2_s <| And.intro @c16_1_s <| And.intro @c16_s <| @w3t_16
-- K16: ↓hk16
/-! ### (*vouch/table.Table) . Get -/
def V17 : Nat → Bool := fun i => [0, 1, 2, 6, 7, 8, 9, 18].elem i
noncomputable def c17:Code:=(Try.f17.body.getD .skip)
noncomputable def o17_0:Array Oper:=rO (cL c17)
noncomputable def c17_1:Code:=(cR c17)
noncomputable def o17_1:Array Oper:=rO (cL c17_1)
noncomputable def c17_2:Code:=(cR c17_1)
noncomputable def c17_3:Code:=(cR c17_2)
noncomputable def o17_4:Array Oper:=rO (cL c17_3)
noncomputable def c17_4:Code:=(cL c17_2)
noncomputable def o17_2:Array Oper:=rO (cL c17_4)
noncomputable def c17_5:Code:=(cR c17_4)
noncomputable def c17_6:Code:=(cL c17_5)
noncomputable def o17_3:Array Oper:=rO (cL c17_6)
noncomputable def c17_3_s:=@s_reg Try.prog 26 V17 c17_3 .ret 4 o17_4 (fun N M G k e w =>
    M (e 0) fun t20 =>
    M (e 1) fun t21 =>
    N (xcall (Value.func (Fn.func 34) #[] #[]) [t20, t21]) w fun t22 w =>
    M (e 8) fun t23 =>
    N (xv (Instr.indexAt 27 t22 t23)) w fun t24 w =>
    N (xv (Instr.loadAt 36 t24)) w fun t25 w =>
    N (xu (Instr.storeAt 36 (e 6) t25)) w fun _ w =>
    M (Value.bool true) fun t7 =>
    k (Env.p e 7 t7) w) (by kernel_rfl) (by intros; kernel_rfl)
noncomputable def c17_6_s:=@s_reg Try.prog 26 V17 c17_6 .ret 3 o17_3 (fun N M G k e w =>
    N (xv (Instr.build 36 ([]).toArray)) w fun t19 w =>
    N (xu (Instr.storeAt 36 (e 6) t19)) w fun _ w =>
    M (Value.bool false) fun t7 =>
    k (Env.p e 7 t7) w) (by kernel_rfl) (by intros; kernel_rfl)
noncomputable def c17_5_s:=@s_cond Try.prog 26 V17 c17_5 .skip 18 c17_6 (by kernel_rfl) (by kernel_rfl)
noncomputable def c17_4_s:=@s_reg Try.prog 26 V17 c17_4 c17_5 2 o17_2 (fun N M G k e w =>
    M (e 9) fun t17 =>
    N (xv (Op.unary UnOp.not t17)) w fun t18 w =>
    k (Env.p e 18 t18) w) (by kernel_rfl) (by intros; kernel_rfl)
noncomputable def c17_2_s:=@s_seq Try.prog 26 V17 c17_2 c17_3 c17_4 (by kernel_rfl)
noncomputable def c17_1_s:=@s_reg Try.prog 26 V17 c17_1 c17_2 1 o17_1 (fun N M G k e w =>
    M (e 0) fun t11 =>
    M (e 1) fun t12 =>
    M (e 2) fun t13 =>
    N (xcall (Value.func (Fn.func 31) #[] #[]) [t11, t12, t13]) w fun t14 w =>
    M t14 fun t10 =>
    N (xv (Instr.extract t10 0)) w fun t15 w =>
    N (xv (Instr.extract t10 1)) w fun t16 w =>
    M t15 fun t8 =>
    M t16 fun t9 =>
    k (Env.p (Env.p e 8 t8) 9 t9) w) (by kernel_rfl) (by intros; kernel_rfl)
noncomputable def c17_s:=@s_reg Try.prog 26 V17 c17 c17_1 0 o17_0 (fun N M G k e w =>
    N (xv (Instr.alloc 36 true (.tuple #[]))) w fun t6 w =>
    M (Value.bool false) fun t7 =>
    k (Env.p (Env.p e 6 t6) 7 t7) w) (by kernel_rfl) (by intros; kernel_rfl)
theorem call17 {a0 a1 a2 : Value} {w : World} {R : Value → World → Prop} (h : W3 Try.prog 26 V17 c17 (retQ Try.prog [.cell 6 36, .tmp 7] R) (argE [a0, a1, a2]) w) : CallsN Try.prog 17 [a0, a1, a2] w R :=
  callsN_of_W3 (c := c17) (rs := [.cell 6 36, .tmp 7]) V17 Try.ntmps17 (by rw [Try.results17]) mixed Try.func17 (by kernel_rfl) (by kernel_rfl) (by kernel_rfl) (by kernel_rfl) (by simp) h
noncomputable def w3t_17:=w3t Try.prog 26 V17
noncomputable def hk17 := And.intro @c17_3_s <| And.intro @c17_6_s <| And.intro @c17_5_s <| And.intro @c17_4_s <| And.intro @c17_2_s <| And.intro @c17_1_s <| And.intro @c17_s <| @w3t_17
-- K17: ↓hk17
/-! ### (*vouch/table.Table) . Of -/
def V18 : Nat → Bool := fun i => [0, 1, 4].elem i
noncomputable def c18:Code:=(Try.f18.body.getD .skip)
noncomputable def o18_0:Array Oper:=rO (cL c18)
noncomputable def c18_1:Code:=(cR c18)
noncomputable def o18_1:Array Oper:=rO (cL c18_1)
noncomputable def c18_1_s:=@s_reg Try.prog 9 V18 c18_1 .ret 1 o18_1 (fun N M G k e w =>
    M (e 0) fun t5 =>
    M (e 1) fun t6 =>
    N (xcall (Value.func (Fn.func 34) #[] #[]) [t5, t6]) w fun t7 w =>
    N (xcall (Value.func (Fn.func 36) #[] #[]) [t7]) w fun t8 w =>
    M t8 fun t4 =>
    k (Env.p e 4 t4) w) (by kernel_rfl) (by intros; kernel_rfl)
noncomputable def c18_s:=@s_reg Try.prog 9 V18 c18 c18_1 0 o18_0 (fun N M G k e w =>
    M (Value.slice none 0 0) fun t4 =>
    k (Env.p e 4 t4) w) (by kernel_rfl) (by intros; kernel_rfl)
theorem call18 {a0 a1 : Value} {w : World} {R : Value → World → Prop} (h : W3 Try.prog 9 V18 c18 (retQ Try.prog [.tmp 4] R) (argE [a0, a1]) w) : CallsN Try.prog 18 [a0, a1] w R :=
  callsN_of_W3 (c := c18) (rs := [.tmp 4]) V18 Try.ntmps18 (by rw [Try.results18]) mixed Try.func18 (by kernel_rfl) (by kernel_rfl) (by kernel_rfl) (by kernel_rfl) (by simp) h
noncomputable def w3t_18:=w3t Try.prog 9 V18
noncomputable def hk18 := And.intro @c18_1_s <| And.intro @c18_s <| @w3t_18
-- K18: ↓hk18
/-! ### vouch/vouchlaw10.entry -/
def V19 : Nat → Bool := fun i => [0, 1, 2, 6].elem i
noncomputable def c19:Code:=(Try.f19.body.getD .skip)
noncomputable def o19_0:Array Oper:=rO (cL c19)
noncomputable def c19_1:Code:=(cR c19)
noncomputable def o19_1:Array Oper:=rO (cL c19_1)
noncomputable def c19_1_s:=@s_reg Try.prog 12 V19 c19_1 .ret 1 o19_1 (fun N M G k e w =>
    M (e 0) fun t7 =>
    M (e 1) fun t8 =>
    M (e 2) fun t9 =>
    N (xv (Instr.build 34 ([(0, t7), (2, t8), (3, t9)]).toArray)) w fun t10 w =>
    N (xv (Instr.build 36 ([(0, t10)]).toArray)) w fun t11 w =>
    N (xu (Instr.storeAt 36 (e 6) t11)) w fun _ w =>
    k e w) (by kernel_rfl) (by intros; kernel_rfl)
noncomputable def c19_s:=@s_reg Try.prog 12 V19 c19 c19_1 0 o19_0 (fun N M G k e w =>
    N (xv (Instr.alloc 36 true (.tuple #[]))) w fun t6 w =>
    k (Env.p e 6 t6) w) (by kernel_rfl) (by intros; kernel_rfl)
theorem call19 {a0 a1 a2 : Value} {w : World} {R : Value → World → Prop} (h : W3 Try.prog 12 V19 c19 (retQ Try.prog [.cell 6 36] R) (argE [a0, a1, a2]) w) : CallsN Try.prog 19 [a0, a1, a2] w R :=
  callsN_of_W3 (c := c19) (rs := [.cell 6 36]) V19 Try.ntmps19 (by rw [Try.results19]) mixed Try.func19 (by kernel_rfl) (by kernel_rfl) (by kernel_rfl) (by kernel_rfl) (by simp) h
noncomputable def w3t_19:=w3t Try.prog 12 V19
noncomputable def hk19 := And.intro @c19_1_s <| And.intro @c19_s <| @w3t_19
-- K19: ↓hk19
/-! ### (*vouch/table.Table) . Clone -/
def V20 : Nat → Bool := fun i => [0, 2, 3, 5, 7, 10, 11, 12, 13].elem i
noncomputable def c20:Code:=(Try.f20.body.getD .skip)
noncomputable def o20_0:Array Oper:=rO (cL c20)
noncomputable def c20_1:Code:=(cR c20)
noncomputable def c20_2:Code:=(cR c20_1)
noncomputable def o20_3:Array Oper:=rO (cL c20_2)
noncomputable def c20_3:Code:=(cR c20_2)
noncomputable def c20_4:Code:=(cR c20_3)
noncomputable def o20_9:Array Oper:=rO (cL c20_4)
noncomputable def c20_5:Code:=(cL c20_3)
noncomputable def o20_4:Array Oper:=rO (cL c20_5)
noncomputable def c20_6:Code:=(cR c20_5)
noncomputable def c20_7:Code:=(cL c20_6)
noncomputable def c20_8:Code:=(cL c20_7)
noncomputable def o20_5:Array Oper:=rO (cL c20_8)
noncomputable def c20_9:Code:=(cR c20_8)
noncomputable def c20_10:Code:=(cR c20_9)
noncomputable def c20_11:Code:=(cR c20_10)
noncomputable def o20_8:Array Oper:=rO c20_11
noncomputable def c20_12:Code:=(cL c20_10)
noncomputable def c20_13:Code:=(cL c20_12)
noncomputable def o20_6:Array Oper:=rO (cL c20_13)
noncomputable def c20_14:Code:=(cR c20_13)
noncomputable def o20_7:Array Oper:=rO c20_14
noncomputable def c20_15:Code:=(cL c20_9)
noncomputable def c20_16:Code:=(cL c20_1)
noncomputable def o20_1:Array Oper:=rO (cL c20_16)
noncomputable def c20_17:Code:=(cR c20_16)
noncomputable def c20_18:Code:=(cL c20_17)
noncomputable def o20_2:Array Oper:=rO (cL c20_18)
noncomputable def c20_4_s:=@s_reg Try.prog 21 V20 c20_4 .ret 9 o20_9 (fun N M G k e w =>
    M (e 3) fun t20 =>
    M t20 fun t2 =>
    k (Env.p e 2 t2) w) (by kernel_rfl) (by intros; kernel_rfl)
noncomputable def c20_11_s:=@s_rend Try.prog 21 V20 c20_11 8 o20_8 (fun N M G k e w =>
    N (xv (xbin BinOp.add 3 (Operand.tmp 12) (Operand.const (Value.int IntKind.i64 1)) (e 12) (Value.int IntKind.i64 1))) w fun t19 w =>
    M t19 fun t12 =>
    k (Env.p e 12 t12) w) (by kernel_rfl) (by intros; kernel_rfl)
noncomputable def c20_14_s:=@s_rend Try.prog 21 V20 c20_14 7 o20_7 (fun N M G k e w =>
    M (e 3) fun t16 =>
    N (xv (Instr.loadAt 36 (e 5))) w fun t17 w =>
    N (xcall (Value.func (Fn.func 15) #[] #[]) [t16, t17]) w fun t18 w =>
    k e w) (by kernel_rfl) (by intros; kernel_rfl)
noncomputable def c20_13_s:=@s_reg Try.prog 21 V20 c20_13 c20_14 6 o20_6 (fun N M G k e w =>
    N (xv (Instr.indexAt 27 (e 10) (e 12))) w fun t14 w =>
    N (xv (Instr.loadAt 36 t14)) w fun t15 w =>
    N (xv (Instr.alloc 36 true (.tuple #[]))) w fun t5 w =>
    N (xu (Instr.storeAt 36 t5 t15)) w fun _ w =>
    k (Env.p e 5 t5) w) (by kernel_rfl) (by intros; kernel_rfl)
noncomputable def c20_12_s:=@s_block Try.prog 21 V20 c20_12 c20_13 1 (by kernel_rfl)
noncomputable def c20_10_s:=@s_seq Try.prog 21 V20 c20_10 c20_11 c20_12 (by kernel_rfl)
noncomputable def c20_15_s:=@s_cond Try.prog 21 V20 c20_15 (.exit 0) 13 .skip (by kernel_rfl) (by kernel_rfl)
noncomputable def c20_9_s:=@s_seq Try.prog 21 V20 c20_9 c20_10 c20_15 (by kernel_rfl)
noncomputable def c20_8_s:=@s_reg Try.prog 21 V20 c20_8 c20_9 5 o20_5 (fun N M G k e w =>
    N (xv (xbin BinOp.lss 3 (Operand.tmp 12) (Operand.tmp 11) (e 12) (e 11))) w fun t13 w =>
    k (Env.p e 13 t13) w) (by kernel_rfl) (by intros; kernel_rfl)
noncomputable def c20_7_s:=@s_loop Try.prog 21 V20 c20_7 c20_8 (by kernel_rfl)
noncomputable def c20_6_s:=@s_block Try.prog 21 V20 c20_6 c20_7 0 (by kernel_rfl)
noncomputable def c20_5_s:=@s_reg Try.prog 21 V20 c20_5 c20_6 4 o20_4 (fun N M G k e w =>
    M (e 0) fun t9 =>
    N (xcall (Value.func (Fn.func 14) #[] #[]) [t9]) w fun t10 w =>
    N (builtin Builtin.len #[27] 3 ([false]).toArray ([t10]).toArray) w fun t11 w =>
    M (Value.int IntKind.i64 0) fun t12 =>
    k (Env.p (Env.p (Env.p e 10 t10) 11 t11) 12 t12) w) (by kernel_rfl) (by intros; kernel_rfl)
noncomputable def c20_3_s:=@s_seq Try.prog 21 V20 c20_3 c20_4 c20_5 (by kernel_rfl)
noncomputable def c20_2_s:=@s_reg Try.prog 21 V20 c20_2 c20_3 3 o20_3 (fun N M G k e w =>
    N (xcall (Value.func (Fn.func 8) #[] #[]) []) w fun t8 w =>
    M t8 fun t3 =>
    k (Env.p e 3 t3) w) (by kernel_rfl) (by intros; kernel_rfl)
noncomputable def c20_18_s:=@s_reg Try.prog 21 V20 c20_18 .ret 2 o20_2 (fun N M G k e w =>
    M (Value.pointer none) fun t2 =>
    k (Env.p e 2 t2) w) (by kernel_rfl) (by intros; kernel_rfl)
noncomputable def c20_17_s:=@s_cond Try.prog 21 V20 c20_17 .skip 7 c20_18 (by kernel_rfl) (by kernel_rfl)
noncomputable def c20_16_s:=@s_reg Try.prog 21 V20 c20_16 c20_17 1 o20_1 (fun N M G k e w =>
    M (e 0) fun t6 =>
    N (xv (xbin BinOp.eql 24 (Operand.tmp 6) (Operand.const (Value.pointer none)) t6 (Value.pointer none))) w fun t7 w =>
    k (Env.p e 7 t7) w) (by kernel_rfl) (by intros; kernel_rfl)
noncomputable def c20_1_s:=@s_seq Try.prog 21 V20 c20_1 c20_2 c20_16 (by kernel_rfl)
noncomputable def c20_s:=@s_reg Try.prog 21 V20 c20 c20_1 0 o20_0 (fun N M G k e w =>
    M (Value.pointer none) fun t2 =>
    k (Env.p e 2 t2) w) (by kernel_rfl) (by intros; kernel_rfl)
theorem call20 {a0 : Value} {w : World} {R : Value → World → Prop} (h : W3 Try.prog 21 V20 c20 (retQ Try.prog [.tmp 2] R) (argE [a0]) w) : CallsN Try.prog 20 [a0] w R :=
  callsN_of_W3 (c := c20) (rs := [.tmp 2]) V20 Try.ntmps20 (by rw [Try.results20]) mixed Try.func20 (by kernel_rfl) (by kernel_rfl) (by kernel_rfl) (by kernel_rfl) (by simp) h
noncomputable def w3t_20:=w3t Try.prog 21 V20
noncomputable def hk20 := And.intro @c20_4_s <| And.intro @c20_11_s <| And.intro @c20_14_s <| And.intro @c20_13_s <| And.intro @c20_12_s <| And.intro @c20_10_s <| And.intro @c20_15_s <| And.intro @c20_9_s <| And.intro @c20_8_s <| And.intro @c20_7_s <| And.intro @c20_6_s <| And.intro @c20_5_s <| And.intro @c20_3_s <| And.intro @c20_2_s <| And.intro @c20_18_s <| And.intro @c20_17_s <| And.intro @c20_16_s <| And.intro @c20_1_s <| And.intro @c20_s <| @w3t_20
-- K20: ↓hk20
/-! ### vouch/fact.Good -/
def V30 : Nat → Bool := fun i => [0, 1, 2, 3, 13].elem i
noncomputable def c30:Code:=(Try.f30.body.getD .skip)
noncomputable def o30_0:Array Oper:=rO (cL c30)
noncomputable def c30_1:Code:=(cR c30)
noncomputable def c30_2:Code:=(cR c30_1)
noncomputable def o30_5:Array Oper:=rO (cL c30_2)
noncomputable def c30_3:Code:=(cL c30_1)
noncomputable def c30_4:Code:=(cL c30_3)
noncomputable def o30_1:Array Oper:=rO (cL c30_4)
noncomputable def c30_5:Code:=(cR c30_4)
noncomputable def c30_6:Code:=(cL c30_5)
noncomputable def o30_2:Array Oper:=rO (cL c30_6)
noncomputable def c30_7:Code:=(cR c30_5)
noncomputable def o30_3:Array Oper:=rO (cL c30_7)
noncomputable def c30_8:Code:=(cR c30_7)
noncomputable def c30_9:Code:=(cL c30_8)
noncomputable def o30_4:Array Oper:=rO (cL c30_9)
noncomputable def c30_2_s:=@s_reg Try.prog 56 V30 c30_2 .ret 5 o30_5 (fun N M G k e w =>
    N (xv (Instr.fieldAt 34 (e 1) 2)) w fun t31 w =>
    N (xv (Instr.loadAt 2 t31)) w fun t32 w =>
    N (xv (xbin BinOp.geq 2 (Operand.tmp 32) (Operand.const (Value.int IntKind.i64 0)) t32 (Value.int IntKind.i64 0))) w fun t33 w =>
    M t33 fun t34 =>
    G (isB t34 true) (fun K => N (xv (Instr.fieldAt 34 (e 1) 2)) w K) (fun t35 w =>
    G (isB t34 true) (fun K => N (xv (Instr.loadAt 2 t35)) w K) (fun t36 w =>
    G (isB t34 true) (fun K => N (xv (xbin BinOp.leq 2 (Operand.tmp 36) (Operand.const (Value.int IntKind.i64 1099511627776)) t36 (Value.int IntKind.i64 1099511627776))) w K) (fun t37 w =>
    N (xpick t34 t37 (Value.bool false)) w fun t38 w =>
    M t38 fun t39 =>
    G (isB t39 true) (fun K => N (xv (Instr.fieldAt 34 (e 1) 3)) w K) (fun t40 w =>
    G (isB t39 true) (fun K => N (xv (Instr.loadAt 2 t40)) w K) (fun t41 w =>
    G (isB t39 true) (fun K => N (xv (Instr.fieldAt 34 (e 1) 2)) w K) (fun t42 w =>
    G (isB t39 true) (fun K => N (xv (Instr.loadAt 2 t42)) w K) (fun t43 w =>
    G (isB t39 true) (fun K => N (xv (xbin BinOp.gtr 2 (Operand.tmp 41) (Operand.tmp 43) t41 t43)) w K) (fun t44 w =>
    N (xpick t39 t44 (Value.bool false)) w fun t45 w =>
    M t45 fun t46 =>
    G (isB t46 true) (fun K => N (xv (Instr.fieldAt 34 (e 1) 3)) w K) (fun t47 w =>
    G (isB t46 true) (fun K => N (xv (Instr.loadAt 2 t47)) w K) (fun t48 w =>
    G (isB t46 true) (fun K => N (xv (xbin BinOp.eql 2 (Operand.tmp 48) (Operand.const (Value.int IntKind.i64 4611686018427387904)) t48 (Value.int IntKind.i64 4611686018427387904))) w K) (fun t49 w =>
    G (isB t46 true) (fun K => M t49 fun v => K v w) (fun t50 w =>
    G (isB t50 false) (fun K => N (xv (Instr.fieldAt 34 (e 1) 3)) w K) (fun t51 w =>
    G (isB t50 false) (fun K => N (xv (Instr.loadAt 2 t51)) w K) (fun t52 w =>
    G (isB t50 false) (fun K => N (xv (xbin BinOp.leq 2 (Operand.tmp 52) (Operand.const (Value.int IntKind.i64 1099511627777)) t52 (Value.int IntKind.i64 1099511627777))) w K) (fun t53 w =>
    G (isB t46 true) (fun K => N (xpick t50 (Value.bool true) t53) w K) (fun t54 w =>
    N (xpick t46 t54 (Value.bool false)) w fun t55 w =>
    M t55 fun t2 =>
    k (Env.p e 2 t2) w) w) w) w) w) w) w) w) w) w) w) w) w) w) w) w) w) (by kernel_rfl) (by intros; kernel_rfl)
noncomputable def c30_6_s:=@s_reg Try.prog 56 V30 c30_6 .ret 2 o30_2 (fun N M G k e w =>
    M (Value.bool false) fun t2 =>
    k (Env.p e 2 t2) w) (by kernel_rfl) (by intros; kernel_rfl)
noncomputable def c30_9_s:=@s_reg Try.prog 56 V30 c30_9 .ret 4 o30_4 (fun N M G k e w =>
    M (Value.bool false) fun t2 =>
    k (Env.p e 2 t2) w) (by kernel_rfl) (by intros; kernel_rfl)
noncomputable def c30_8_s:=@s_cond Try.prog 56 V30 c30_8 .skip 13 c30_9 (by kernel_rfl) (by kernel_rfl)
noncomputable def c30_7_s:=@s_reg Try.prog 56 V30 c30_7 c30_8 3 o30_3 (fun N M G k e w =>
    N (xv (Instr.fieldAt 34 (e 1) 1)) w fun t14 w =>
    N (xv (Instr.fieldAt 32 t14 1)) w fun t15 w =>
    N (xv (Instr.loadAt 9 t15)) w fun t16 w =>
    N (builtin Builtin.len #[9] 3 ([false]).toArray ([t16]).toArray) w fun t17 w =>
    N (xv (xbin BinOp.gtr 3 (Operand.tmp 17) (Operand.const (Value.int IntKind.i64 256)) t17 (Value.int IntKind.i64 256))) w fun t18 w =>
    M t18 fun t19 =>
    G (isB t19 false) (fun K => N (xv (Instr.fieldAt 34 (e 1) 1)) w K) (fun t20 w =>
    G (isB t19 false) (fun K => N (xv (Instr.fieldAt 32 t20 0)) w K) (fun t21 w =>
    G (isB t19 false) (fun K => N (xv (Instr.loadAt 4 t21)) w K) (fun t22 w =>
    G (isB t19 false) (fun K => N (xv (Op.unary UnOp.not t22)) w K) (fun t23 w =>
    G (isB t19 false) (fun K => M t23 fun v => K v w) (fun t24 w =>
    G (isB t24 true) (fun K => N (xv (Instr.fieldAt 34 (e 1) 1)) w K) (fun t25 w =>
    G (isB t24 true) (fun K => N (xv (Instr.fieldAt 32 t25 1)) w K) (fun t26 w =>
    G (isB t24 true) (fun K => N (xv (Instr.loadAt 9 t26)) w K) (fun t27 w =>
    G (isB t24 true) (fun K => N (xv (xbin BinOp.neq 9 (Operand.tmp 27) (Operand.const (Value.string ⟨#[]⟩)) t27 (Value.string ⟨#[]⟩))) w K) (fun t28 w =>
    G (isB t19 false) (fun K => N (xpick t24 t28 (Value.bool false)) w K) (fun t29 w =>
    N (xpick t19 (Value.bool true) t29) w fun t30 w =>
    M t30 fun t13 =>
    k (Env.p e 13 t13) w) w) w) w) w) w) w) w) w) w) w) (by kernel_rfl) (by intros; kernel_rfl)
noncomputable def c30_5_s:=@s_cond Try.prog 56 V30 c30_5 c30_7 3 c30_6 (by kernel_rfl) (by kernel_rfl)
noncomputable def c30_4_s:=@s_reg Try.prog 56 V30 c30_4 c30_5 1 o30_1 (fun N M G k e w =>
    N (xv (Instr.fieldAt 34 (e 1) 0)) w fun t4 w =>
    N (xv (Instr.loadAt 9 t4)) w fun t5 w =>
    N (xv (xbin BinOp.eql 9 (Operand.tmp 5) (Operand.const (Value.string ⟨#[]⟩)) t5 (Value.string ⟨#[]⟩))) w fun t6 w =>
    M t6 fun t7 =>
    G (isB t7 false) (fun K => N (xv (Instr.fieldAt 34 (e 1) 0)) w K) (fun t8 w =>
    G (isB t7 false) (fun K => N (xv (Instr.loadAt 9 t8)) w K) (fun t9 w =>
    G (isB t7 false) (fun K => N (builtin Builtin.len #[9] 3 ([false]).toArray ([t9]).toArray) w K) (fun t10 w =>
    G (isB t7 false) (fun K => N (xv (xbin BinOp.gtr 3 (Operand.tmp 10) (Operand.const (Value.int IntKind.i64 32)) t10 (Value.int IntKind.i64 32))) w K) (fun t11 w =>
    N (xpick t7 (Value.bool true) t11) w fun t12 w =>
    M t12 fun t3 =>
    k (Env.p e 3 t3) w) w) w) w) w) (by kernel_rfl) (by intros; kernel_rfl)
noncomputable def c30_3_s:=@s_block Try.prog 56 V30 c30_3 c30_4 0 (by kernel_rfl)
noncomputable def c30_1_s:=@s_seq Try.prog 56 V30 c30_1 c30_2 c30_3 (by kernel_rfl)
noncomputable def c30_s:=@s_reg Try.prog 56 V30 c30 c30_1 0 o30_0 (fun N M G k e w =>
    N (xv (Instr.box 34 (e 0))) w fun t1 w =>
    M (Value.bool false) fun t2 =>
    k (Env.p (Env.p e 1 t1) 2 t2) w) (by kernel_rfl) (by intros; kernel_rfl)
theorem call30 {a0 : Value} {w : World} {R : Value → World → Prop} (h : W3 Try.prog 56 V30 c30 (retQ Try.prog [.tmp 2] R) (argE [a0]) w) : CallsN Try.prog 30 [a0] w R :=
  callsN_of_W3 (c := c30) (rs := [.tmp 2]) V30 Try.ntmps30 (by rw [Try.results30]) mixed Try.func30 (by kernel_rfl) (by kernel_rfl) (by kernel_rfl) (by kernel_rfl) (by simp) h
noncomputable def w3t_30:=w3t Try.prog 56 V30
noncomputable def hk30 := And.intro @c30_2_s <| And.intro @c30_6_s <| And.intro @c30_9_s <| And.intro @c30_8_s <| And.intro @c30_7_s <| And.intro @c30_5_s <| And.intro @c30_4_s <| And.intro @c30_3_s <| And.intro @c30_1_s <| And.intro @c30_s <| @w3t_30
-- K30: ↓hk30
/-! ### (*vouch/table.Table) . find -/
def V31 : Nat → Bool := fun i => [0, 1, 2, 6, 7].elem i
noncomputable def c31:Code:=(Try.f31.body.getD .skip)
noncomputable def o31_0:Array Oper:=rO (cL c31)
noncomputable def c31_1:Code:=(cR c31)
noncomputable def o31_1:Array Oper:=rO (cL c31_1)
noncomputable def c31_1_s:=@s_reg Try.prog 15 V31 c31_1 .ret 1 o31_1 (fun N M G k e w =>
    M (e 0) fun t8 =>
    M (e 1) fun t9 =>
    N (xcall (Value.func (Fn.func 34) #[] #[]) [t8, t9]) w fun t10 w =>
    M (e 2) fun t11 =>
    N (xcall (Value.func (Fn.func 44) #[] #[]) [t10, t11, (Value.func (Fn.func 45) #[] #[])]) w fun t12 w =>
    N (xv (Instr.extract t12 0)) w fun t13 w =>
    N (xv (Instr.extract t12 1)) w fun t14 w =>
    M t13 fun t6 =>
    M t14 fun t7 =>
    k (Env.p (Env.p e 6 t6) 7 t7) w) (by kernel_rfl) (by intros; kernel_rfl)
noncomputable def c31_s:=@s_reg Try.prog 15 V31 c31 c31_1 0 o31_0 (fun N M G k e w =>
    M (Value.int IntKind.i64 0) fun t6 =>
    M (Value.bool false) fun t7 =>
    k (Env.p (Env.p e 6 t6) 7 t7) w) (by kernel_rfl) (by intros; kernel_rfl)
theorem call31 {a0 a1 a2 : Value} {w : World} {R : Value → World → Prop} (h : W3 Try.prog 15 V31 c31 (retQ Try.prog [.tmp 6, .tmp 7] R) (argE [a0, a1, a2]) w) : CallsN Try.prog 31 [a0, a1, a2] w R :=
  callsN_of_W3 (c := c31) (rs := [.tmp 6, .tmp 7]) V31 Try.ntmps31 (by rw [Try.results31]) mixed Try.func31 (by kernel_rfl) (by kernel_rfl) (by kernel_rfl) (by kernel_rfl) (by simp) h
noncomputable def w3t_31:=w3t Try.prog 15 V31
noncomputable def hk31 := And.intro @c31_1_s <| And.intro @c31_s <| @w3t_31
-- K31: ↓hk31
/-! ### slices.Insert[[]vouch/api.Entry,vouch/api.Entry] -/
def V32 : Nat → Bool := fun i => [0, 1, 2, 6, 7, 8, 9, 16, 22, 31, 68].elem i
noncomputable def c32:Code:=(Try.f32.body.getD .skip)
noncomputable def o32_0:Array Oper:=rO (cL c32)
noncomputable def c32_1:Code:=(cR c32)
noncomputable def o32_1:Array Oper:=rO (cL c32_1)
noncomputable def c32_2:Code:=(cR c32_1)
noncomputable def o32_2:Array Oper:=rO (cL c32_2)
noncomputable def c32_3:Code:=(cR c32_2)
noncomputable def c32_4:Code:=(cR c32_3)
noncomputable def o32_5:Array Oper:=rO (cL c32_4)
noncomputable def c32_5:Code:=(cR c32_4)
noncomputable def c32_6:Code:=(cR c32_5)
noncomputable def c32_7:Code:=(cR c32_6)
noncomputable def o32_13:Array Oper:=rO (cL c32_7)
noncomputable def c32_8:Code:=(cR c32_7)
noncomputable def c32_9:Code:=(cR c32_8)
noncomputable def o32_18:Array Oper:=rO (cL c32_9)
noncomputable def c32_10:Code:=(cR c32_9)
noncomputable def o32_19:Array Oper:=rO (cL c32_10)
noncomputable def c32_11:Code:=(cR c32_10)
noncomputable def o32_20:Array Oper:=rO (cL c32_11)
noncomputable def c32_12:Code:=(cL c32_8)
noncomputable def o32_14:Array Oper:=rO (cL c32_12)
noncomputable def c32_13:Code:=(cR c32_12)
noncomputable def c32_14:Code:=(cL c32_13)
noncomputable def o32_15:Array Oper:=rO (cL c32_14)
noncomputable def b32_15:List Row:=[(0, 0, 1, 70, true), (0, 0, 2, 71, true), (0, 0, 128, 72, true), (6, 6, 3541774862152233910272, 73, true), (9, 15, 5312662293228350865408, 74, true), (0, 0, 1, 75, true), (0, 0, 2, 76, true), (96, 96, 56668397794435742564352, 77, true), (144, 255, 85002596691653613846528, 78, false)]
noncomputable def c32_15:Code:=(cR c32_14)
noncomputable def o32_16:Array Oper:=rO (cL c32_15)
noncomputable def c32_16:Code:=(cR c32_15)
noncomputable def o32_17:Array Oper:=rO (cL c32_16)
noncomputable def c32_17:Code:=(cL c32_6)
noncomputable def o32_8:Array Oper:=rO (cL c32_17)
noncomputable def c32_18:Code:=(cR c32_17)
noncomputable def c32_19:Code:=(cL c32_18)
noncomputable def o32_9:Array Oper:=rO (cL c32_19)
noncomputable def c32_20:Code:=(cR c32_19)
noncomputable def o32_10:Array Oper:=rO (cL c32_20)
noncomputable def c32_21:Code:=(cR c32_20)
noncomputable def o32_11:Array Oper:=rO (cL c32_21)
noncomputable def b32_11:List Row:=[(0, 0, 512, 47, true), (0, 0, 2, 48, true), (0, 0, 128, 49, true), (6, 6, 422212465065984, 50, true), (9, 15, 633318697598976, 51, true), (0, 0, 1, 52, true), (0, 0, 2, 53, true), (96, 96, 6755399441055744, 54, true), (144, 255, 10133099161583616, 55, false)]
noncomputable def c32_22:Code:=(cR c32_21)
noncomputable def o32_12:Array Oper:=rO (cL c32_22)
noncomputable def c32_23:Code:=(cL c32_5)
noncomputable def o32_6:Array Oper:=rO (cL c32_23)
noncomputable def c32_24:Code:=(cR c32_23)
noncomputable def c32_25:Code:=(cL c32_24)
noncomputable def o32_7:Array Oper:=rO (cL c32_25)
noncomputable def c32_26:Code:=(cL c32_3)
noncomputable def o32_3:Array Oper:=rO (cL c32_26)
noncomputable def c32_27:Code:=(cR c32_26)
noncomputable def c32_28:Code:=(cL c32_27)
noncomputable def o32_4:Array Oper:=rO (cL c32_28)
noncomputable def c32_11_s:=@s_reg Try.prog 95 V32 c32_11 .ret 20 o32_20 (fun N M G k e w =>
    M (e 0) fun t94 =>
    M t94 fun t6 =>
    k (Env.p e 6 t6) w) (by kernel_rfl) (by intros; kernel_rfl)
noncomputable def c32_10_s:=@s_reg Try.prog 95 V32 c32_10 c32_11 19 o32_19 (fun N M G k e w =>
    M (e 0) fun t89 =>
    M (e 1) fun t90 =>
    N (xv (Instr.sliceAt 27 t89 (some t90) none none)) w fun t91 w =>
    M (e 7) fun t92 =>
    N (xcall (Value.func (Fn.func 48) #[] #[]) [t91, t92]) w fun t93 w =>
    k e w) (by kernel_rfl) (by intros; kernel_rfl)
noncomputable def c32_9_s:=@s_reg Try.prog 95 V32 c32_9 c32_10 18 o32_18 (fun N M G k e w =>
    M (e 0) fun t84 =>
    M (e 8) fun t85 =>
    N (xv (Instr.sliceAt 27 t84 (some t85) none none)) w fun t86 w =>
    M (e 2) fun t87 =>
    N (builtin Builtin.copy #[27, 27] 3 ([false, false]).toArray ([t86, t87]).toArray) w fun t88 w =>
    k e w) (by kernel_rfl) (by intros; kernel_rfl)
noncomputable def c32_16_s:=@s_reg Try.prog 95 V32 c32_16 .ret 17 o32_17 (fun N M G k e w =>
    M (e 0) fun t83 =>
    M t83 fun t6 =>
    k (Env.p e 6 t6) w) (by kernel_rfl) (by intros; kernel_rfl)
noncomputable def c32_15_s:=@s_reg Try.prog 95 V32 c32_15 c32_16 16 o32_16 (fun N M G k e w =>
    M (e 0) fun t78 =>
    M (e 1) fun t79 =>
    N (xv (Instr.sliceAt 27 t78 (some t79) none none)) w fun t80 w =>
    M (e 2) fun t81 =>
    N (builtin Builtin.copy #[27, 27] 3 ([false, false]).toArray ([t80, t81]).toArray) w fun t82 w =>
    k e w) (by kernel_rfl) (by intros; kernel_rfl)
noncomputable def c32_14_s:=@s_drw Try.prog 95 V32 c32_14 c32_15 15 o32_15 b32_15 9 (fun N T M G H k e w =>
    M (e 0) fun t69 =>
    M (e 1) fun t70 =>
    M (e 7) fun t71 =>
    T (FrX none w) (xv (xbin BinOp.add 3 (Operand.tmp 70) (Operand.tmp 71) t70 t71)) fun t72 =>
    T (FrX none w) (xv (Instr.sliceAt 27 t69 (some t72) none none)) fun t73 =>
    M (e 0) fun t74 =>
    M (e 1) fun t75 =>
    T (FrX none w) (xv (Instr.sliceAt 27 t74 (some t75) none none)) fun t76 =>
    N (builtin Builtin.copy #[27, 27] 3 ([false, false]).toArray ([t73, t76]).toArray) w fun t77 w8 =>
    k e w8) (by kernel_rfl) (by kernel_rfl) (by kernel_rfl) (by intros; kernel_rfl)
noncomputable def c32_13_s:=@s_cond Try.prog 95 V32 c32_13 .skip 68 c32_14 (by kernel_rfl) (by kernel_rfl)
noncomputable def c32_12_s:=@s_reg Try.prog 95 V32 c32_12 c32_13 14 o32_14 (fun N M G k e w =>
    M (e 2) fun t61 =>
    M (e 0) fun t62 =>
    M (e 1) fun t63 =>
    M (e 7) fun t64 =>
    N (xv (xbin BinOp.add 3 (Operand.tmp 63) (Operand.tmp 64) t63 t64)) w fun t65 w =>
    N (xv (Instr.sliceAt 27 t62 (some t65) none none)) w fun t66 w =>
    N (xcall (Value.func (Fn.func 47) #[] #[]) [t61, t66]) w fun t67 w =>
    N (xv (Op.unary UnOp.not t67)) w fun t68 w =>
    k (Env.p e 68 t68) w) (by kernel_rfl) (by intros; kernel_rfl)
noncomputable def c32_8_s:=@s_seq Try.prog 95 V32 c32_8 c32_9 c32_12 (by kernel_rfl)
noncomputable def c32_7_s:=@s_reg Try.prog 95 V32 c32_7 c32_8 13 o32_13 (fun N M G k e w =>
    M (e 0) fun t56 =>
    M (e 8) fun t57 =>
    M (e 7) fun t58 =>
    N (xv (xbin BinOp.add 3 (Operand.tmp 57) (Operand.tmp 58) t57 t58)) w fun t59 w =>
    N (xv (Instr.sliceAt 27 t56 none (some t59) none)) w fun t60 w =>
    M t60 fun t0 =>
    k (Env.p e 0 t0) w) (by kernel_rfl) (by intros; kernel_rfl)
noncomputable def c32_22_s:=@s_reg Try.prog 95 V32 c32_22 .ret 12 o32_12 (fun N M G k e w =>
    M (e 9) fun t55 =>
    M t55 fun t6 =>
    k (Env.p e 6 t6) w) (by kernel_rfl) (by intros; kernel_rfl)
noncomputable def c32_21_s:=@s_drw Try.prog 95 V32 c32_21 c32_22 11 o32_11 b32_11 9 (fun N T M G H k e w =>
    M (e 9) fun t46 =>
    M (e 1) fun t47 =>
    M (e 7) fun t48 =>
    T (FrX none w) (xv (xbin BinOp.add 3 (Operand.tmp 47) (Operand.tmp 48) t47 t48)) fun t49 =>
    T (FrX none w) (xv (Instr.sliceAt 27 t46 (some t49) none none)) fun t50 =>
    M (e 0) fun t51 =>
    M (e 1) fun t52 =>
    T (FrX none w) (xv (Instr.sliceAt 27 t51 (some t52) none none)) fun t53 =>
    N (builtin Builtin.copy #[27, 27] 3 ([false, false]).toArray ([t50, t53]).toArray) w fun t54 w8 =>
    k e w8) (by kernel_rfl) (by kernel_rfl) (by kernel_rfl) (by intros; kernel_rfl)
noncomputable def c32_20_s:=@s_reg Try.prog 95 V32 c32_20 c32_21 10 o32_10 (fun N M G k e w =>
    M (e 9) fun t41 =>
    M (e 1) fun t42 =>
    N (xv (Instr.sliceAt 27 t41 (some t42) none none)) w fun t43 w =>
    M (e 2) fun t44 =>
    N (builtin Builtin.copy #[27, 27] 3 ([false, false]).toArray ([t43, t44]).toArray) w fun t45 w =>
    k e w) (by kernel_rfl) (by intros; kernel_rfl)
noncomputable def c32_19_s:=@s_reg Try.prog 95 V32 c32_19 c32_20 9 o32_9 (fun N M G k e w =>
    M (e 0) fun t32 =>
    M (e 1) fun t33 =>
    N (xv (Instr.sliceAt 27 t32 none (some t33) none)) w fun t34 w =>
    M (e 8) fun t35 =>
    M (e 7) fun t36 =>
    N (xv (xbin BinOp.add 3 (Operand.tmp 35) (Operand.tmp 36) t35 t36)) w fun t37 w =>
    M (e 1) fun t38 =>
    N (xv (xbin BinOp.sub 3 (Operand.tmp 37) (Operand.tmp 38) t37 t38)) w fun t39 w =>
    N (builtin Builtin.append #[27, 3] 27 ([false, false]).toArray ([t34, t39]).toArray) w fun t40 w =>
    M t40 fun t9 =>
    k (Env.p e 9 t9) w) (by kernel_rfl) (by intros; kernel_rfl)
noncomputable def c32_18_s:=@s_cond Try.prog 95 V32 c32_18 .skip 31 c32_19 (by kernel_rfl) (by kernel_rfl)
noncomputable def c32_17_s:=@s_reg Try.prog 95 V32 c32_17 c32_18 8 o32_8 (fun N M G k e w =>
    M (e 8) fun t26 =>
    M (e 7) fun t27 =>
    N (xv (xbin BinOp.add 3 (Operand.tmp 26) (Operand.tmp 27) t26 t27)) w fun t28 w =>
    M (e 0) fun t29 =>
    N (builtin Builtin.cap #[27] 3 ([false]).toArray ([t29]).toArray) w fun t30 w =>
    N (xv (xbin BinOp.gtr 3 (Operand.tmp 28) (Operand.tmp 30) t28 t30)) w fun t31 w =>
    k (Env.p e 31 t31) w) (by kernel_rfl) (by intros; kernel_rfl)
noncomputable def c32_6_s:=@s_seq Try.prog 95 V32 c32_6 c32_7 c32_17 (by kernel_rfl)
noncomputable def c32_25_s:=@s_reg Try.prog 95 V32 c32_25 .ret 7 o32_7 (fun N M G k e w =>
    M (e 0) fun t23 =>
    M (e 2) fun t24 =>
    N (builtin Builtin.append #[27, 27] 27 ([false, false]).toArray ([t23, t24]).toArray) w fun t25 w =>
    M t25 fun t6 =>
    k (Env.p e 6 t6) w) (by kernel_rfl) (by intros; kernel_rfl)
noncomputable def c32_24_s:=@s_cond Try.prog 95 V32 c32_24 .skip 22 c32_25 (by kernel_rfl) (by kernel_rfl)
noncomputable def c32_23_s:=@s_reg Try.prog 95 V32 c32_23 c32_24 6 o32_6 (fun N M G k e w =>
    M (e 1) fun t20 =>
    M (e 8) fun t21 =>
    N (xv (xbin BinOp.eql 3 (Operand.tmp 20) (Operand.tmp 21) t20 t21)) w fun t22 w =>
    k (Env.p e 22 t22) w) (by kernel_rfl) (by intros; kernel_rfl)
noncomputable def c32_5_s:=@s_seq Try.prog 95 V32 c32_5 c32_6 c32_23 (by kernel_rfl)
noncomputable def c32_4_s:=@s_reg Try.prog 95 V32 c32_4 c32_5 5 o32_5 (fun N M G k e w =>
    M (e 0) fun t18 =>
    N (builtin Builtin.len #[27] 3 ([false]).toArray ([t18]).toArray) w fun t19 w =>
    M t19 fun t8 =>
    k (Env.p e 8 t8) w) (by kernel_rfl) (by intros; kernel_rfl)
noncomputable def c32_28_s:=@s_reg Try.prog 95 V32 c32_28 .ret 4 o32_4 (fun N M G k e w =>
    M (e 0) fun t17 =>
    M t17 fun t6 =>
    k (Env.p e 6 t6) w) (by kernel_rfl) (by intros; kernel_rfl)
noncomputable def c32_27_s:=@s_cond Try.prog 95 V32 c32_27 .skip 16 c32_28 (by kernel_rfl) (by kernel_rfl)
noncomputable def c32_26_s:=@s_reg Try.prog 95 V32 c32_26 c32_27 3 o32_3 (fun N M G k e w =>
    M (e 7) fun t15 =>
    N (xv (xbin BinOp.eql 3 (Operand.tmp 15) (Operand.const (Value.int IntKind.i64 0)) t15 (Value.int IntKind.i64 0))) w fun t16 w =>
    k (Env.p e 16 t16) w) (by kernel_rfl) (by intros; kernel_rfl)
noncomputable def c32_3_s:=@s_seq Try.prog 95 V32 c32_3 c32_4 c32_26 (by kernel_rfl)
noncomputable def c32_2_s:=@s_reg Try.prog 95 V32 c32_2 c32_3 2 o32_2 (fun N M G k e w =>
    M (e 2) fun t13 =>
    N (builtin Builtin.len #[27] 3 ([false]).toArray ([t13]).toArray) w fun t14 w =>
    M t14 fun t7 =>
    k (Env.p e 7 t7) w) (by kernel_rfl) (by intros; kernel_rfl)
noncomputable def c32_1_s:=@s_reg Try.prog 95 V32 c32_1 c32_2 1 o32_1 (fun N M G k e w =>
    M (e 0) fun t10 =>
    M (e 1) fun t11 =>
    N (xv (Instr.sliceAt 27 t10 (some t11) none none)) w fun t12 w =>
    k e w) (by kernel_rfl) (by intros; kernel_rfl)
noncomputable def c32_s:=@s_reg Try.prog 95 V32 c32 c32_1 0 o32_0 (fun N M G k e w =>
    M (Value.slice none 0 0) fun t6 =>
    k (Env.p e 6 t6) w) (by kernel_rfl) (by intros; kernel_rfl)
theorem call32 {a0 a1 a2 : Value} {w : World} {R : Value → World → Prop} (h : W3 Try.prog 95 V32 c32 (retQ Try.prog [.tmp 6] R) (argE [a0, a1, a2]) w) : CallsN Try.prog 32 [a0, a1, a2] w R :=
  callsN_of_W3 (c := c32) (rs := [.tmp 6]) V32 Try.ntmps32 (by rw [Try.results32]) mixed Try.func32 (by kernel_rfl) (by kernel_rfl) (by kernel_rfl) (by kernel_rfl) (by simp) h
noncomputable def w3t_32:=w3t Try.prog 95 V32
noncomputable def hk32 := And.intro @c32_11_s <| And.intro @c32_10_s <| And.intro @c32_9_s <| And.intro @c32_16_s <| And.intro @c32_15_s <| And.intro @c32_14_s <| And.intro @c32_13_s <| And.intro @c32_12_s <| And.intro @c32_8_s <| And.intro @c32_7_s <| And.intro @c32_22_s <| And.intro @c32_21_s <| And.intro @c32_20_s <| And.intro @c32_19_s <| And.intro @c32_18_s <| And.intro @c32_17_s <| And.intro @c32_6_s <| And.intro @c32_25_s <| And.intro @c32_24_s <| And.intro @c32_23_s <| And.intro @c32_5_s <| And.intro @c32_4_s <| And.intro @c32_28_s <| And.intro @c32_27_s <| And.intro @c32_26_s <| And.intro @c32_3_s <| And.intro @c32_2_s <| And.intro @c32_1_s <| And.intro @c32_s <| @w3t_32
-- K32: ↓hk32
/-! ### vouch/fact.Cost -/
def V33 : Nat → Bool := fun i => [0, 1, 2].elem i
noncomputable def c33:Code:=(Try.f33.body.getD .skip)
noncomputable def o33_0:Array Oper:=rO (cL c33)
noncomputable def c33_1:Code:=(cR c33)
noncomputable def o33_1:Array Oper:=rO (cL c33_1)
noncomputable def c33_1_s:=@s_reg Try.prog 12 V33 c33_1 .ret 1 o33_1 (fun N M G k e w =>
    N (xv (Instr.fieldAt 34 (e 1) 0)) w fun t3 w =>
    N (xv (Instr.loadAt 9 t3)) w fun t4 w =>
    N (builtin Builtin.len #[9] 3 ([false]).toArray ([t4]).toArray) w fun t5 w =>
    N (xv (xbin BinOp.add 3 (Operand.const (Value.int IntKind.i64 32)) (Operand.tmp 5) (Value.int IntKind.i64 32) t5)) w fun t6 w =>
    N (xv (Instr.fieldAt 34 (e 1) 1)) w fun t7 w =>
    N (xv (Instr.fieldAt 32 t7 1)) w fun t8 w =>
    N (xv (Instr.loadAt 9 t8)) w fun t9 w =>
    N (builtin Builtin.len #[9] 3 ([false]).toArray ([t9]).toArray) w fun t10 w =>
    N (xv (xbin BinOp.add 3 (Operand.tmp 6) (Operand.tmp 10) t6 t10)) w fun t11 w =>
    M t11 fun t2 =>
    k (Env.p e 2 t2) w) (by kernel_rfl) (by intros; kernel_rfl)
noncomputable def c33_s:=@s_reg Try.prog 12 V33 c33 c33_1 0 o33_0 (fun N M G k e w =>
    N (xv (Instr.box 34 (e 0))) w fun t1 w =>
    M (Value.int IntKind.i64 0) fun t2 =>
    k (Env.p (Env.p e 1 t1) 2 t2) w) (by kernel_rfl) (by intros; kernel_rfl)
theorem call33 {a0 : Value} {w : World} {R : Value → World → Prop} (h : W3 Try.prog 12 V33 c33 (retQ Try.prog [.tmp 2] R) (argE [a0]) w) : CallsN Try.prog 33 [a0] w R :=
  callsN_of_W3 (c := c33) (rs := [.tmp 2]) V33 Try.ntmps33 (by rw [Try.results33]) mixed Try.func33 (by kernel_rfl) (by kernel_rfl) (by kernel_rfl) (by kernel_rfl) (by simp) h
noncomputable def w3t_33:=w3t Try.prog 12 V33
noncomputable def hk33 := And.intro @c33_1_s <| And.intro @c33_s <| @w3t_33
-- K33: ↓hk33
/-! ### (*vouch/table.Table) . row -/
def V34 : Nat → Bool := fun i => [0, 1, 4, 6].elem i
noncomputable def c34:Code:=(Try.f34.body.getD .skip)
noncomputable def o34_0:Array Oper:=rO (cL c34)
noncomputable def c34_1:Code:=(cR c34)
noncomputable def c34_2:Code:=(cR c34_1)
noncomputable def o34_3:Array Oper:=rO (cL c34_2)
noncomputable def c34_3:Code:=(cL c34_1)
noncomputable def o34_1:Array Oper:=rO (cL c34_3)
noncomputable def c34_4:Code:=(cR c34_3)
noncomputable def c34_5:Code:=(cL c34_4)
noncomputable def o34_2:Array Oper:=rO (cL c34_5)
noncomputable def c34_2_s:=@s_reg Try.prog 13 V34 c34_2 .ret 3 o34_3 (fun N M G k e w =>
    M (e 0) fun t7 =>
    N (xnil t7) w fun t8 w =>
    N (xv (Instr.fieldAt 56 t8 0)) w fun t9 w =>
    N (xv (Instr.loadAt 54 t9)) w fun t10 w =>
    M (e 1) fun t11 =>
    N (xv (Instr.lookup 54 t10 t11 false)) w fun t12 w =>
    M t12 fun t4 =>
    k (Env.p e 4 t4) w) (by kernel_rfl) (by intros; kernel_rfl)
noncomputable def c34_5_s:=@s_reg Try.prog 13 V34 c34_5 .ret 2 o34_2 (fun N M G k e w =>
    M (Value.slice none 0 0) fun t4 =>
    k (Env.p e 4 t4) w) (by kernel_rfl) (by intros; kernel_rfl)
noncomputable def c34_4_s:=@s_cond Try.prog 13 V34 c34_4 .skip 6 c34_5 (by kernel_rfl) (by kernel_rfl)
noncomputable def c34_3_s:=@s_reg Try.prog 13 V34 c34_3 c34_4 1 o34_1 (fun N M G k e w =>
    M (e 0) fun t5 =>
    N (xv (xbin BinOp.eql 24 (Operand.tmp 5) (Operand.const (Value.pointer none)) t5 (Value.pointer none))) w fun t6 w =>
    k (Env.p e 6 t6) w) (by kernel_rfl) (by intros; kernel_rfl)
noncomputable def c34_1_s:=@s_seq Try.prog 13 V34 c34_1 c34_2 c34_3 (by kernel_rfl)
noncomputable def c34_s:=@s_reg Try.prog 13 V34 c34 c34_1 0 o34_0 (fun N M G k e w =>
    M (Value.slice none 0 0) fun t4 =>
    k (Env.p e 4 t4) w) (by kernel_rfl) (by intros; kernel_rfl)
theorem call34 {a0 a1 : Value} {w : World} {R : Value → World → Prop} (h : W3 Try.prog 13 V34 c34 (retQ Try.prog [.tmp 4] R) (argE [a0, a1]) w) : CallsN Try.prog 34 [a0, a1] w R :=
  callsN_of_W3 (c := c34) (rs := [.tmp 4]) V34 Try.ntmps34 (by rw [Try.results34]) mixed Try.func34 (by kernel_rfl) (by kernel_rfl) (by kernel_rfl) (by kernel_rfl) (by simp) h
noncomputable def w3t_34:=w3t Try.prog 13 V34
noncomputable def hk34 := And.intro @c34_2_s <| And.intro @c34_5_s <| And.intro @c34_4_s <| And.intro @c34_3_s <| And.intro @c34_1_s <| And.intro @c34_s <| @w3t_34
-- K34: ↓hk34
/-! ### vouch/fact.Meets -/
def V35 : Nat → Bool := fun i => [0, 1, 2, 3, 5, 6].elem i
noncomputable def c35:Code:=(Try.f35.body.getD .skip)
noncomputable def o35_0:Array Oper:=rO (cL c35)
noncomputable def c35_1:Code:=(cR c35)
noncomputable def o35_1:Array Oper:=rO (cL c35_1)
noncomputable def b35_1:List Row:=[(0, 0, 8, 8, true), (0, 0, 2, 9, true), (3, 3, 384, 10, false), (0, 0, 32, 11, true), (12, 15, 1024, 12, false), (20, 31, 2560, 13, false), (63, 63, 4096, 7, true)]
noncomputable def c35_1_s:=@s_drw Try.prog 13 V35 c35_1 .ret 1 o35_1 b35_1 7 (fun N T M G H k e w =>
    T (FrX (some []) w) (xv (Instr.loadAt 34 (e 3))) fun t7 =>
    M (e 1) fun t8 =>
    T (FrX (some []) w) (xv (Instr.loadAt 38 (e 5))) fun t10 =>
    N (xcall (Value.func (Fn.func 49) #[] #[]) [t7, t8]) w fun t9 w2 =>
    FrX (some []) w w2 ∧ (N (xcall (Value.func (Fn.func 51) #[] #[]) [t10]) w2 fun t11 w4 =>
    N (xcall (Value.func (Fn.func 50) #[] #[]) [t9, t11]) w4 fun t12 w5 =>
    M t12 fun t6 =>
    k (Env.p e 6 t6) w5)) (by kernel_rfl) (by kernel_rfl) (by kernel_rfl) (by intros; kernel_rfl)
noncomputable def c35_s:=@s_reg Try.prog 13 V35 c35 c35_1 0 o35_0 (fun N M G k e w =>
    N (xv (Instr.box 34 (e 0))) w fun t3 w =>
    N (xv (Instr.box 38 (e 2))) w fun t5 w =>
    M (Value.bool false) fun t6 =>
    k (Env.p (Env.p (Env.p e 3 t3) 5 t5) 6 t6) w) (by kernel_rfl) (by intros; kernel_rfl)
theorem call35 {a0 a1 a2 : Value} {w : World} {R : Value → World → Prop} (h : W3 Try.prog 13 V35 c35 (retQ Try.prog [.tmp 6] R) (argE [a0, a1, a2]) w) : CallsN Try.prog 35 [a0, a1, a2] w R :=
  callsN_of_W3 (c := c35) (rs := [.tmp 6]) V35 Try.ntmps35 (by rw [Try.results35]) mixed Try.func35 (by kernel_rfl) (by kernel_rfl) (by kernel_rfl) (by kernel_rfl) (by simp) h
noncomputable def w3t_35:=w3t Try.prog 13 V35
noncomputable def hk35 := And.intro @c35_1_s <| And.intro @c35_s <| @w3t_35
-- K35: ↓hk35
/-! ### slices.Clone[[]vouch/api.Entry,vouch/api.Entry] -/
def V36 : Nat → Bool := fun i => [0, 2, 4].elem i
noncomputable def c36:Code:=(Try.f36.body.getD .skip)
noncomputable def o36_0:Array Oper:=rO (cL c36)
noncomputable def c36_1:Code:=(cR c36)
noncomputable def c36_2:Code:=(cR c36_1)
noncomputable def o36_3:Array Oper:=rO (cL c36_2)
noncomputable def c36_3:Code:=(cL c36_1)
noncomputable def o36_1:Array Oper:=rO (cL c36_3)
noncomputable def c36_4:Code:=(cR c36_3)
noncomputable def c36_5:Code:=(cL c36_4)
noncomputable def o36_2:Array Oper:=rO (cL c36_5)
noncomputable def c36_2_s:=@s_reg Try.prog 8 V36 c36_2 .ret 3 o36_3 (fun N M G k e w =>
    N (xv (Instr.buildSlice 27 0 ([]).toArray)) w fun t5 w =>
    M (e 0) fun t6 =>
    N (builtin Builtin.append #[27, 27] 27 ([false, false]).toArray ([t5, t6]).toArray) w fun t7 w =>
    M t7 fun t2 =>
    k (Env.p e 2 t2) w) (by kernel_rfl) (by intros; kernel_rfl)
noncomputable def c36_5_s:=@s_reg Try.prog 8 V36 c36_5 .ret 2 o36_2 (fun N M G k e w =>
    M (Value.slice none 0 0) fun t2 =>
    k (Env.p e 2 t2) w) (by kernel_rfl) (by intros; kernel_rfl)
noncomputable def c36_4_s:=@s_cond Try.prog 8 V36 c36_4 .skip 4 c36_5 (by kernel_rfl) (by kernel_rfl)
noncomputable def c36_3_s:=@s_reg Try.prog 8 V36 c36_3 c36_4 1 o36_1 (fun N M G k e w =>
    M (e 0) fun t3 =>
    N (xv (xbin BinOp.eql 27 (Operand.tmp 3) (Operand.const (Value.slice none 0 0)) t3 (Value.slice none 0 0))) w fun t4 w =>
    k (Env.p e 4 t4) w) (by kernel_rfl) (by intros; kernel_rfl)
noncomputable def c36_1_s:=@s_seq Try.prog 8 V36 c36_1 c36_2 c36_3 (by kernel_rfl)
noncomputable def c36_s:=@s_reg Try.prog 8 V36 c36 c36_1 0 o36_0 (fun N M G k e w =>
    M (Value.slice none 0 0) fun t2 =>
    k (Env.p e 2 t2) w) (by kernel_rfl) (by intros; kernel_rfl)
theorem call36 {a0 : Value} {w : World} {R : Value → World → Prop} (h : W3 Try.prog 8 V36 c36 (retQ Try.prog [.tmp 2] R) (argE [a0]) w) : CallsN Try.prog 36 [a0] w R :=
  callsN_of_W3 (c := c36) (rs := [.tmp 2]) V36 Try.ntmps36 (by rw [Try.results36]) mixed Try.func36 (by kernel_rfl) (by kernel_rfl) (by kernel_rfl) (by kernel_rfl) (by simp) h
noncomputable def w3t_36:=w3t Try.prog 8 V36
noncomputable def hk36 := And.intro @c36_2_s <| And.intro @c36_5_s <| And.intro @c36_4_s <| And.intro @c36_3_s <| And.intro @c36_1_s <| And.intro @c36_s <| @w3t_36
-- K36: ↓hk36
/-! ### slices.Delete[[]vouch/api.Entry,vouch/api.Entry] -/
def V37 : Nat → Bool := fun i => [0, 1, 2, 6, 7, 16].elem i
noncomputable def c37:Code:=(Try.f37.body.getD .skip)
noncomputable def o37_0:Array Oper:=rO (cL c37)
noncomputable def c37_1:Code:=(cR c37)
noncomputable def o37_1:Array Oper:=rO (cL c37_1)
noncomputable def c37_2:Code:=(cR c37_1)
noncomputable def c37_3:Code:=(cR c37_2)
noncomputable def o37_4:Array Oper:=rO (cL c37_3)
noncomputable def c37_4:Code:=(cR c37_3)
noncomputable def o37_5:Array Oper:=rO (cL c37_4)
noncomputable def b37_5:List Row:=[(0, 0, 1, 21, true), (0, 0, 2, 22, true), (3, 3, 3145728, 23, true), (0, 0, 1, 24, true), (0, 0, 4, 25, true), (24, 24, 25165824, 26, true), (36, 63, 37748736, 27, false), (127, 127, 67108864, 1, true)]
noncomputable def c37_5:Code:=(cR c37_4)
noncomputable def o37_6:Array Oper:=rO (cL c37_5)
noncomputable def c37_6:Code:=(cR c37_5)
noncomputable def o37_7:Array Oper:=rO (cL c37_6)
noncomputable def c37_7:Code:=(cL c37_2)
noncomputable def o37_2:Array Oper:=rO (cL c37_7)
noncomputable def c37_8:Code:=(cR c37_7)
noncomputable def c37_9:Code:=(cL c37_8)
noncomputable def o37_3:Array Oper:=rO (cL c37_9)
noncomputable def c37_6_s:=@s_reg Try.prog 33 V37 c37_6 .ret 7 o37_7 (fun N M G k e w =>
    M (e 0) fun t32 =>
    M t32 fun t6 =>
    k (Env.p e 6 t6) w) (by kernel_rfl) (by intros; kernel_rfl)
noncomputable def c37_5_s:=@s_reg Try.prog 33 V37 c37_5 c37_6 6 o37_6 (fun N M G k e w =>
    M (e 0) fun t27 =>
    M (e 0) fun t28 =>
    N (builtin Builtin.len #[27] 3 ([false]).toArray ([t28]).toArray) w fun t29 w =>
    M (e 7) fun t30 =>
    N (xv (Instr.sliceAt 27 t27 (some t29) (some t30) none)) w fun t31 w =>
    N (builtin Builtin.clear #[27] 0 ([false]).toArray ([t31]).toArray) w fun _ w =>
    k e w) (by kernel_rfl) (by intros; kernel_rfl)
noncomputable def c37_4_s:=@s_drw Try.prog 33 V37 c37_4 c37_5 5 o37_5 b37_5 8 (fun N T M G H k e w =>
    M (e 0) fun t20 =>
    M (e 1) fun t21 =>
    T (FrX none w) (xv (Instr.sliceAt 27 t20 none (some t21) none)) fun t22 =>
    M (e 0) fun t23 =>
    M (e 2) fun t24 =>
    T (FrX none w) (xv (Instr.sliceAt 27 t23 (some t24) none none)) fun t25 =>
    N (builtin Builtin.append #[27, 27] 27 ([false, false]).toArray ([t22, t25]).toArray) w fun t26 w6 =>
    M t26 fun t0 =>
    k (Env.p e 0 t0) w6) (by kernel_rfl) (by kernel_rfl) (by kernel_rfl) (by intros; kernel_rfl)
noncomputable def c37_3_s:=@s_reg Try.prog 33 V37 c37_3 c37_4 4 o37_4 (fun N M G k e w =>
    M (e 0) fun t18 =>
    N (builtin Builtin.len #[27] 3 ([false]).toArray ([t18]).toArray) w fun t19 w =>
    M t19 fun t7 =>
    k (Env.p e 7 t7) w) (by kernel_rfl) (by intros; kernel_rfl)
noncomputable def c37_9_s:=@s_reg Try.prog 33 V37 c37_9 .ret 3 o37_3 (fun N M G k e w =>
    M (e 0) fun t17 =>
    M t17 fun t6 =>
    k (Env.p e 6 t6) w) (by kernel_rfl) (by intros; kernel_rfl)
noncomputable def c37_8_s:=@s_cond Try.prog 33 V37 c37_8 .skip 16 c37_9 (by kernel_rfl) (by kernel_rfl)
noncomputable def c37_7_s:=@s_reg Try.prog 33 V37 c37_7 c37_8 2 o37_2 (fun N M G k e w =>
    M (e 1) fun t14 =>
    M (e 2) fun t15 =>
    N (xv (xbin BinOp.eql 3 (Operand.tmp 14) (Operand.tmp 15) t14 t15)) w fun t16 w =>
    k (Env.p e 16 t16) w) (by kernel_rfl) (by intros; kernel_rfl)
noncomputable def c37_2_s:=@s_seq Try.prog 33 V37 c37_2 c37_3 c37_7 (by kernel_rfl)
noncomputable def c37_1_s:=@s_reg Try.prog 33 V37 c37_1 c37_2 1 o37_1 (fun N M G k e w =>
    M (e 0) fun t8 =>
    M (e 1) fun t9 =>
    M (e 2) fun t10 =>
    M (e 0) fun t11 =>
    N (builtin Builtin.len #[27] 3 ([false]).toArray ([t11]).toArray) w fun t12 w =>
    N (xv (Instr.sliceAt 27 t8 (some t9) (some t10) (some t12))) w fun t13 w =>
    k e w) (by kernel_rfl) (by intros; kernel_rfl)
noncomputable def c37_s:=@s_reg Try.prog 33 V37 c37 c37_1 0 o37_0 (fun N M G k e w =>
    M (Value.slice none 0 0) fun t6 =>
    k (Env.p e 6 t6) w) (by kernel_rfl) (by intros; kernel_rfl)
theorem call37 {a0 a1 a2 : Value} {w : World} {R : Value → World → Prop} (h : W3 Try.prog 33 V37 c37 (retQ Try.prog [.tmp 6] R) (argE [a0, a1, a2]) w) : CallsN Try.prog 37 [a0, a1, a2] w R :=
  callsN_of_W3 (c := c37) (rs := [.tmp 6]) V37 Try.ntmps37 (by rw [Try.results37]) mixed Try.func37 (by kernel_rfl) (by kernel_rfl) (by kernel_rfl) (by kernel_rfl) (by simp) h
noncomputable def w3t_37:=w3t Try.prog 33 V37
noncomputable def hk37 := And.intro @c37_6_s <| And.intro @c37_5_s <| And.intro @c37_4_s <| And.intro @c37_3_s <| And.intro @c37_9_s <| And.intro @c37_8_s <| And.intro @c37_7_s <| And.intro @c37_2_s <| And.intro @c37_1_s <| And.intro @c37_s <| @w3t_37
-- K37: ↓hk37
/-! ### slices.BinarySearchFunc[[]vouch/api.Entry,vouch/api.Entry,int64] -/
def V44 : Nat → Bool := fun i => [0, 1, 2, 6, 7, 8, 9, 10, 11, 17, 31].elem i
noncomputable def c44:Code:=(Try.f44.body.getD .skip)
noncomputable def o44_0:Array Oper:=rO (cL c44)
noncomputable def c44_1:Code:=(cR c44)
noncomputable def o44_1:Array Oper:=rO (cL c44_1)
noncomputable def c44_2:Code:=(cR c44_1)
noncomputable def o44_2:Array Oper:=rO (cL c44_2)
noncomputable def c44_3:Code:=(cR c44_2)
noncomputable def c44_4:Code:=(cR c44_3)
noncomputable def o44_8:Array Oper:=rO (cL c44_4)
noncomputable def c44_5:Code:=(cL c44_3)
noncomputable def c44_6:Code:=(cL c44_5)
noncomputable def c44_7:Code:=(cL c44_6)
noncomputable def c44_8:Code:=(cR c44_7)
noncomputable def c44_9:Code:=(cL c44_8)
noncomputable def o44_4:Array Oper:=rO (cL c44_9)
noncomputable def c44_10:Code:=(cR c44_9)
noncomputable def o44_5:Array Oper:=rO (cL c44_10)
noncomputable def c44_11:Code:=(cR c44_10)
noncomputable def c44_12:Code:=(cL c44_11)
noncomputable def o44_6:Array Oper:=rO c44_12
noncomputable def c44_13:Code:=(cR c44_11)
noncomputable def o44_7:Array Oper:=rO c44_13
noncomputable def c44_14:Code:=(cL c44_7)
noncomputable def o44_3:Array Oper:=rO (cL c44_14)
noncomputable def c44_15:Code:=(cR c44_14)
noncomputable def c44_4_s:=@s_reg Try.prog 49 V44 c44_4 .ret 8 o44_8 (fun N M G k e w =>
    M (e 9) fun t35 =>
    M (e 9) fun t36 =>
    M (e 8) fun t37 =>
    N (xv (xbin BinOp.lss 3 (Operand.tmp 36) (Operand.tmp 37) t36 t37)) w fun t38 w =>
    M t38 fun t39 =>
    G (isB t39 true) (fun K => M (e 2) fun v => K v w) (fun t40 w =>
    G (isB t39 true) (fun K => M (e 0) fun v => K v w) (fun t41 w =>
    G (isB t39 true) (fun K => M (e 9) fun v => K v w) (fun t42 w =>
    G (isB t39 true) (fun K => N (xv (Instr.indexAt 27 t41 t42)) w K) (fun t43 w =>
    G (isB t39 true) (fun K => N (xv (Instr.loadAt 36 t43)) w K) (fun t44 w =>
    G (isB t39 true) (fun K => M (e 1) fun v => K v w) (fun t45 w =>
    G (isB t39 true) (fun K => N (xcall t40 [t44, t45]) w K) (fun t46 w =>
    G (isB t39 true) (fun K => N (xv (xbin BinOp.eql 3 (Operand.tmp 46) (Operand.const (Value.int IntKind.i64 0)) t46 (Value.int IntKind.i64 0))) w K) (fun t47 w =>
    N (xpick t39 t47 (Value.bool false)) w fun t48 w =>
    M t35 fun t6 =>
    M t48 fun t7 =>
    k (Env.p (Env.p e 6 t6) 7 t7) w) w) w) w) w) w) w) w) w) (by kernel_rfl) (by intros; kernel_rfl)
noncomputable def c44_12_s:=@s_rend Try.prog 49 V44 c44_12 6 o44_6 (fun N M G k e w =>
    M (e 11) fun t32 =>
    N (xv (xbin BinOp.add 3 (Operand.tmp 32) (Operand.const (Value.int IntKind.i64 1)) t32 (Value.int IntKind.i64 1))) w fun t33 w =>
    M t33 fun t9 =>
    k (Env.p e 9 t9) w) (by kernel_rfl) (by intros; kernel_rfl)
noncomputable def c44_13_s:=@s_rend Try.prog 49 V44 c44_13 7 o44_7 (fun N M G k e w =>
    M (e 11) fun t34 =>
    M t34 fun t10 =>
    k (Env.p e 10 t10) w) (by kernel_rfl) (by intros; kernel_rfl)
noncomputable def c44_11_s:=@s_cond Try.prog 49 V44 c44_11 c44_13 31 c44_12 (by kernel_rfl) (by kernel_rfl)
noncomputable def c44_10_s:=@s_reg Try.prog 49 V44 c44_10 c44_11 5 o44_5 (fun N M G k e w =>
    M (e 2) fun t24 =>
    M (e 0) fun t25 =>
    M (e 11) fun t26 =>
    N (xv (Instr.indexAt 27 t25 t26)) w fun t27 w =>
    N (xv (Instr.loadAt 36 t27)) w fun t28 w =>
    M (e 1) fun t29 =>
    N (xcall t24 [t28, t29]) w fun t30 w =>
    N (xv (xbin BinOp.lss 3 (Operand.tmp 30) (Operand.const (Value.int IntKind.i64 0)) t30 (Value.int IntKind.i64 0))) w fun t31 w =>
    k (Env.p e 31 t31) w) (by kernel_rfl) (by intros; kernel_rfl)
noncomputable def c44_9_s:=@s_reg Try.prog 49 V44 c44_9 c44_10 4 o44_4 (fun N M G k e w =>
    M (e 9) fun t18 =>
    M (e 10) fun t19 =>
    N (xv (xbin BinOp.add 3 (Operand.tmp 18) (Operand.tmp 19) t18 t19)) w fun t20 w =>
    N (xv (convert 3 90 t20)) w fun t21 w =>
    N (xv (xbin BinOp.shr 90 (Operand.tmp 21) (Operand.const (Value.int IntKind.u64 1)) t21 (Value.int IntKind.u64 1))) w fun t22 w =>
    N (xv (convert 90 3 t22)) w fun t23 w =>
    M t23 fun t11 =>
    k (Env.p e 11 t11) w) (by kernel_rfl) (by intros; kernel_rfl)
noncomputable def c44_8_s:=@s_block Try.prog 49 V44 c44_8 c44_9 1 (by kernel_rfl)
noncomputable def c44_15_s:=@s_cond Try.prog 49 V44 c44_15 (.exit 0) 17 .skip (by kernel_rfl) (by kernel_rfl)
noncomputable def c44_14_s:=@s_reg Try.prog 49 V44 c44_14 c44_15 3 o44_3 (fun N M G k e w =>
    M (e 9) fun t15 =>
    M (e 10) fun t16 =>
    N (xv (xbin BinOp.lss 3 (Operand.tmp 15) (Operand.tmp 16) t15 t16)) w fun t17 w =>
    k (Env.p e 17 t17) w) (by kernel_rfl) (by intros; kernel_rfl)
noncomputable def c44_7_s:=@s_seq Try.prog 49 V44 c44_7 c44_8 c44_14 (by kernel_rfl)
noncomputable def c44_6_s:=@s_loop Try.prog 49 V44 c44_6 c44_7 (by kernel_rfl)
noncomputable def c44_5_s:=@s_block Try.prog 49 V44 c44_5 c44_6 0 (by kernel_rfl)
noncomputable def c44_3_s:=@s_seq Try.prog 49 V44 c44_3 c44_4 c44_5 (by kernel_rfl)
noncomputable def c44_2_s:=@s_reg Try.prog 49 V44 c44_2 c44_3 2 o44_2 (fun N M G k e w =>
    M (e 8) fun t14 =>
    M (Value.int IntKind.i64 0) fun t9 =>
    M t14 fun t10 =>
    k (Env.p (Env.p e 9 t9) 10 t10) w) (by kernel_rfl) (by intros; kernel_rfl)
noncomputable def c44_1_s:=@s_reg Try.prog 49 V44 c44_1 c44_2 1 o44_1 (fun N M G k e w =>
    M (e 0) fun t12 =>
    N (builtin Builtin.len #[27] 3 ([false]).toArray ([t12]).toArray) w fun t13 w =>
    M t13 fun t8 =>
    k (Env.p e 8 t8) w) (by kernel_rfl) (by intros; kernel_rfl)
noncomputable def c44_s:=@s_reg Try.prog 49 V44 c44 c44_1 0 o44_0 (fun N M G k e w =>
    M (Value.int IntKind.i64 0) fun t6 =>
    M (Value.bool false) fun t7 =>
    k (Env.p (Env.p e 6 t6) 7 t7) w) (by kernel_rfl) (by intros; kernel_rfl)
theorem call44 {a0 a1 a2 : Value} {w : World} {R : Value → World → Prop} (h : W3 Try.prog 49 V44 c44 (retQ Try.prog [.tmp 6, .tmp 7] R) (argE [a0, a1, a2]) w) : CallsN Try.prog 44 [a0, a1, a2] w R :=
  callsN_of_W3 (c := c44) (rs := [.tmp 6, .tmp 7]) V44 Try.ntmps44 (by rw [Try.results44]) mixed Try.func44 (by kernel_rfl) (by kernel_rfl) (by kernel_rfl) (by kernel_rfl) (by simp) h
noncomputable def w3t_44:=w3t Try.prog 49 V44
noncomputable def hk44 := And.intro @c44_4_s <| And.intro @c44_12_s <| And.intro @c44_13_s <| And.intro @c44_11_s <| And.intro @c44_10_s <| And.intro @c44_9_s <| And.intro @c44_8_s <| And.intro @c44_15_s <| And.intro @c44_14_s <| And.intro @c44_7_s <| And.intro @c44_6_s <| And.intro @c44_5_s <| And.intro @c44_3_s <| And.intro @c44_2_s <| And.intro @c44_1_s <| And.intro @c44_s <| @w3t_44
-- K44: ↓hk44
/-! ### (*vouch/table.Table) . find$1 -/
def V45 : Nat → Bool := fun i => [0, 1, 2, 4].elem i
noncomputable def c45:Code:=(Try.f45.body.getD .skip)
noncomputable def o45_0:Array Oper:=rO (cL c45)
noncomputable def c45_1:Code:=(cR c45)
noncomputable def o45_1:Array Oper:=rO (cL c45_1)
noncomputable def c45_1_s:=@s_reg Try.prog 10 V45 c45_1 .ret 1 o45_1 (fun N M G k e w =>
    N (xv (Instr.fieldAt 36 (e 2) 0)) w fun t5 w =>
    N (xv (Instr.fieldAt 34 t5 2)) w fun t6 w =>
    N (xv (Instr.loadAt 2 t6)) w fun t7 w =>
    M (e 1) fun t8 =>
    N (xcall (Value.func (Fn.func 46) #[] #[]) [t7, t8]) w fun t9 w =>
    M t9 fun t4 =>
    k (Env.p e 4 t4) w) (by kernel_rfl) (by intros; kernel_rfl)
noncomputable def c45_s:=@s_reg Try.prog 10 V45 c45 c45_1 0 o45_0 (fun N M G k e w =>
    N (xv (Instr.box 36 (e 0))) w fun t2 w =>
    M (Value.int IntKind.i64 0) fun t4 =>
    k (Env.p (Env.p e 2 t2) 4 t4) w) (by kernel_rfl) (by intros; kernel_rfl)
theorem call45 {a0 a1 : Value} {w : World} {R : Value → World → Prop} (h : W3 Try.prog 10 V45 c45 (retQ Try.prog [.tmp 4] R) (argE [a0, a1]) w) : CallsN Try.prog 45 [a0, a1] w R :=
  callsN_of_W3 (c := c45) (rs := [.tmp 4]) V45 Try.ntmps45 (by rw [Try.results45]) mixed Try.func45 (by kernel_rfl) (by kernel_rfl) (by kernel_rfl) (by kernel_rfl) (by simp) h
noncomputable def w3t_45:=w3t Try.prog 10 V45
noncomputable def hk45 := And.intro @c45_1_s <| And.intro @c45_s <| @w3t_45
-- K45: ↓hk45
/-! ### cmp.Compare[int64] -/
def V46 : Nat → Bool := fun i => [0, 1, 4, 5, 6, 11, 12, 13, 16, 19].elem i
noncomputable def c46:Code:=(Try.f46.body.getD .skip)
noncomputable def o46_0:Array Oper:=rO (cL c46)
noncomputable def c46_1:Code:=(cR c46)
noncomputable def o46_1:Array Oper:=rO (cL c46_1)
noncomputable def c46_2:Code:=(cR c46_1)
noncomputable def o46_2:Array Oper:=rO (cL c46_2)
noncomputable def c46_3:Code:=(cR c46_2)
noncomputable def c46_4:Code:=(cR c46_3)
noncomputable def c46_5:Code:=(cR c46_4)
noncomputable def c46_6:Code:=(cR c46_5)
noncomputable def c46_7:Code:=(cR c46_6)
noncomputable def o46_13:Array Oper:=rO (cL c46_7)
noncomputable def c46_8:Code:=(cL c46_6)
noncomputable def o46_11:Array Oper:=rO (cL c46_8)
noncomputable def c46_9:Code:=(cR c46_8)
noncomputable def c46_10:Code:=(cL c46_9)
noncomputable def o46_12:Array Oper:=rO (cL c46_10)
noncomputable def c46_11:Code:=(cL c46_5)
noncomputable def o46_9:Array Oper:=rO (cL c46_11)
noncomputable def c46_12:Code:=(cR c46_11)
noncomputable def c46_13:Code:=(cL c46_12)
noncomputable def o46_10:Array Oper:=rO (cL c46_13)
noncomputable def c46_14:Code:=(cL c46_4)
noncomputable def o46_7:Array Oper:=rO (cL c46_14)
noncomputable def c46_15:Code:=(cR c46_14)
noncomputable def c46_16:Code:=(cL c46_15)
noncomputable def o46_8:Array Oper:=rO (cL c46_16)
noncomputable def c46_17:Code:=(cL c46_3)
noncomputable def o46_3:Array Oper:=rO (cL c46_17)
noncomputable def c46_18:Code:=(cR c46_17)
noncomputable def c46_19:Code:=(cL c46_18)
noncomputable def c46_20:Code:=(cR c46_19)
noncomputable def o46_6:Array Oper:=rO (cL c46_20)
noncomputable def c46_21:Code:=(cL c46_19)
noncomputable def o46_4:Array Oper:=rO (cL c46_21)
noncomputable def c46_22:Code:=(cR c46_21)
noncomputable def c46_23:Code:=(cL c46_22)
noncomputable def o46_5:Array Oper:=rO (cL c46_23)
noncomputable def c46_7_s:=@s_reg Try.prog 20 V46 c46_7 .ret 13 o46_13 (fun N M G k e w =>
    M (Value.int IntKind.i64 0) fun t4 =>
    k (Env.p e 4 t4) w) (by kernel_rfl) (by intros; kernel_rfl)
noncomputable def c46_10_s:=@s_reg Try.prog 20 V46 c46_10 .ret 12 o46_12 (fun N M G k e w =>
    M (Value.int IntKind.i64 1) fun t4 =>
    k (Env.p e 4 t4) w) (by kernel_rfl) (by intros; kernel_rfl)
noncomputable def c46_9_s:=@s_cond Try.prog 20 V46 c46_9 .skip 19 c46_10 (by kernel_rfl) (by kernel_rfl)
noncomputable def c46_8_s:=@s_reg Try.prog 20 V46 c46_8 c46_9 11 o46_11 (fun N M G k e w =>
    M (e 0) fun t17 =>
    M (e 1) fun t18 =>
    N (xv (xbin BinOp.gtr 2 (Operand.tmp 17) (Operand.tmp 18) t17 t18)) w fun t19 w =>
    k (Env.p e 19 t19) w) (by kernel_rfl) (by intros; kernel_rfl)
noncomputable def c46_6_s:=@s_seq Try.prog 20 V46 c46_6 c46_7 c46_8 (by kernel_rfl)
noncomputable def c46_13_s:=@s_reg Try.prog 20 V46 c46_13 .ret 10 o46_10 (fun N M G k e w =>
    M (Value.int IntKind.i64 (-1)) fun t4 =>
    k (Env.p e 4 t4) w) (by kernel_rfl) (by intros; kernel_rfl)
noncomputable def c46_12_s:=@s_cond Try.prog 20 V46 c46_12 .skip 16 c46_13 (by kernel_rfl) (by kernel_rfl)
noncomputable def c46_11_s:=@s_reg Try.prog 20 V46 c46_11 c46_12 9 o46_9 (fun N M G k e w =>
    M (e 0) fun t14 =>
    M (e 1) fun t15 =>
    N (xv (xbin BinOp.lss 2 (Operand.tmp 14) (Operand.tmp 15) t14 t15)) w fun t16 w =>
    k (Env.p e 16 t16) w) (by kernel_rfl) (by intros; kernel_rfl)
noncomputable def c46_5_s:=@s_seq Try.prog 20 V46 c46_5 c46_6 c46_11 (by kernel_rfl)
noncomputable def c46_16_s:=@s_reg Try.prog 20 V46 c46_16 .ret 8 o46_8 (fun N M G k e w =>
    M (Value.int IntKind.i64 1) fun t4 =>
    k (Env.p e 4 t4) w) (by kernel_rfl) (by intros; kernel_rfl)
noncomputable def c46_15_s:=@s_cond Try.prog 20 V46 c46_15 .skip 13 c46_16 (by kernel_rfl) (by kernel_rfl)
noncomputable def c46_14_s:=@s_reg Try.prog 20 V46 c46_14 c46_15 7 o46_7 (fun N M G k e w =>
    M (e 6) fun t13 =>
    k (Env.p e 13 t13) w) (by kernel_rfl) (by intros; kernel_rfl)
noncomputable def c46_4_s:=@s_seq Try.prog 20 V46 c46_4 c46_5 c46_14 (by kernel_rfl)
noncomputable def c46_20_s:=@s_reg Try.prog 20 V46 c46_20 .ret 6 o46_6 (fun N M G k e w =>
    M (Value.int IntKind.i64 (-1)) fun t4 =>
    k (Env.p e 4 t4) w) (by kernel_rfl) (by intros; kernel_rfl)
noncomputable def c46_23_s:=@s_reg Try.prog 20 V46 c46_23 .ret 5 o46_5 (fun N M G k e w =>
    M (Value.int IntKind.i64 0) fun t4 =>
    k (Env.p e 4 t4) w) (by kernel_rfl) (by intros; kernel_rfl)
noncomputable def c46_22_s:=@s_cond Try.prog 20 V46 c46_22 .skip 12 c46_23 (by kernel_rfl) (by kernel_rfl)
noncomputable def c46_21_s:=@s_reg Try.prog 20 V46 c46_21 c46_22 4 o46_4 (fun N M G k e w =>
    M (e 6) fun t12 =>
    k (Env.p e 12 t12) w) (by kernel_rfl) (by intros; kernel_rfl)
noncomputable def c46_19_s:=@s_seq Try.prog 20 V46 c46_19 c46_20 c46_21 (by kernel_rfl)
noncomputable def c46_18_s:=@s_cond Try.prog 20 V46 c46_18 .skip 11 c46_19 (by kernel_rfl) (by kernel_rfl)
noncomputable def c46_17_s:=@s_reg Try.prog 20 V46 c46_17 c46_18 3 o46_3 (fun N M G k e w =>
    M (e 5) fun t11 =>
    k (Env.p e 11 t11) w) (by kernel_rfl) (by intros; kernel_rfl)
noncomputable def c46_3_s:=@s_seq Try.prog 20 V46 c46_3 c46_4 c46_17 (by kernel_rfl)
noncomputable def c46_2_s:=@s_reg Try.prog 20 V46 c46_2 c46_3 2 o46_2 (fun N M G k e w =>
    M (e 1) fun t9 =>
    N (xcall (Value.func (Fn.func 60) #[] #[]) [t9]) w fun t10 w =>
    M t10 fun t6 =>
    k (Env.p e 6 t6) w) (by kernel_rfl) (by intros; kernel_rfl)
noncomputable def c46_1_s:=@s_reg Try.prog 20 V46 c46_1 c46_2 1 o46_1 (fun N M G k e w =>
    M (e 0) fun t7 =>
    N (xcall (Value.func (Fn.func 60) #[] #[]) [t7]) w fun t8 w =>
    M t8 fun t5 =>
    k (Env.p e 5 t5) w) (by kernel_rfl) (by intros; kernel_rfl)
noncomputable def c46_s:=@s_reg Try.prog 20 V46 c46 c46_1 0 o46_0 (fun N M G k e w =>
    M (Value.int IntKind.i64 0) fun t4 =>
    k (Env.p e 4 t4) w) (by kernel_rfl) (by intros; kernel_rfl)
theorem call46 {a0 a1 : Value} {w : World} {R : Value → World → Prop} (h : W3 Try.prog 20 V46 c46 (retQ Try.prog [.tmp 4] R) (argE [a0, a1]) w) : CallsN Try.prog 46 [a0, a1] w R :=
  callsN_of_W3 (c := c46) (rs := [.tmp 4]) V46 Try.ntmps46 (by rw [Try.results46]) mixed Try.func46 (by kernel_rfl) (by kernel_rfl) (by kernel_rfl) (by kernel_rfl) (by simp) h
noncomputable def w3t_46:=w3t Try.prog 20 V46
noncomputable def hk46 := And.intro @c46_7_s <| And.intro @c46_10_s <| And.intro @c46_9_s <| And.intro @c46_8_s <| And.intro @c46_6_s <| And.intro @c46_13_s <| And.intro @c46_12_s <| And.intro @c46_11_s <| And.intro @c46_5_s <| And.intro @c46_16_s <| And.intro @c46_15_s <| And.intro @c46_14_s <| And.intro @c46_4_s <| And.intro @c46_20_s <| And.intro @c46_23_s <| And.intro @c46_22_s <| And.intro @c46_21_s <| And.intro @c46_19_s <| And.intro @c46_18_s <| And.intro @c46_17_s <| And.intro @c46_3_s <| And.intro @c46_2_s <| And.intro @c46_1_s <| And.intro @c46_s <| @w3t_46
-- K46: ↓hk46
/-! ### cmp.isNaN[int64] -/
def V60 : Nat → Bool := fun i => [0, 2].elem i
noncomputable def c60:Code:=(Try.f60.body.getD .skip)
noncomputable def o60_0:Array Oper:=rO (cL c60)
noncomputable def c60_1:Code:=(cR c60)
noncomputable def o60_1:Array Oper:=rO (cL c60_1)
noncomputable def c60_1_s:=@s_reg Try.prog 6 V60 c60_1 .ret 1 o60_1 (fun N M G k e w =>
    M (e 0) fun t3 =>
    M (e 0) fun t4 =>
    N (xv (xbin BinOp.neq 2 (Operand.tmp 3) (Operand.tmp 4) t3 t4)) w fun t5 w =>
    M t5 fun t2 =>
    k (Env.p e 2 t2) w) (by kernel_rfl) (by intros; kernel_rfl)
noncomputable def c60_s:=@s_reg Try.prog 6 V60 c60 c60_1 0 o60_0 (fun N M G k e w =>
    M (Value.bool false) fun t2 =>
    k (Env.p e 2 t2) w) (by kernel_rfl) (by intros; kernel_rfl)
theorem call60 {a0 : Value} {w : World} {R : Value → World → Prop} (h : W3 Try.prog 6 V60 c60 (retQ Try.prog [.tmp 2] R) (argE [a0]) w) : CallsN Try.prog 60 [a0] w R :=
  callsN_of_W3 (c := c60) (rs := [.tmp 2]) V60 Try.ntmps60 (by rw [Try.results60]) mixed Try.func60 (by kernel_rfl) (by kernel_rfl) (by kernel_rfl) (by kernel_rfl) (by simp) h
noncomputable def w3t_60:=w3t Try.prog 6 V60
noncomputable def hk60 := And.intro @c60_1_s <| And.intro @c60_s <| @w3t_60
-- K60: ↓hk60
/-! ### vouch/fact.Known -/
def V49 : Nat → Bool := fun i => [0, 1, 2, 4, 7].elem i
noncomputable def c49:Code:=(Try.f49.body.getD .skip)
noncomputable def o49_0:Array Oper:=rO (cL c49)
noncomputable def c49_1:Code:=(cR c49)
noncomputable def c49_2:Code:=(cR c49_1)
noncomputable def o49_3:Array Oper:=rO (cL c49_2)
noncomputable def c49_3:Code:=(cL c49_1)
noncomputable def o49_1:Array Oper:=rO (cL c49_3)
noncomputable def c49_4:Code:=(cR c49_3)
noncomputable def c49_5:Code:=(cL c49_4)
noncomputable def o49_2:Array Oper:=rO (cL c49_5)
noncomputable def b49_2:List Row:=[(0, 0, 4, 9, true), (1, 1, 256, 10, true), (0, 0, 2, 11, true), (4, 4, 1024, 12, false), (10, 15, 2560, 13, false), (31, 31, 4112, 0, false)]
noncomputable def c49_2_s:=@s_reg Try.prog 18 V49 c49_2 .ret 3 o49_3 (fun N M G k e w =>
    N (xv (Instr.fieldAt 34 (e 2) 2)) w fun t13 w =>
    N (xv (Instr.loadAt 2 t13)) w fun t14 w =>
    N (xv (Instr.fieldAt 34 (e 2) 3)) w fun t15 w =>
    N (xv (Instr.loadAt 2 t15)) w fun t16 w =>
    N (xcall (Value.func (Fn.func 62) #[] #[]) [t14, t16]) w fun t17 w =>
    N (xu (Instr.storeAt 78 (e 4) t17)) w fun _ w =>
    k e w) (by kernel_rfl) (by intros; kernel_rfl)
noncomputable def c49_5_s:=@s_drw Try.prog 18 V49 c49_5 .ret 2 o49_2 b49_2 6 (fun N T M G H k e w =>
    T (FrX none w) (xv (Instr.fieldAt 34 (e 2) 2)) fun t8 =>
    T (FrX (some []) w) (xv (Instr.loadAt 2 t8)) fun t9 =>
    M (e 1) fun t10 =>
    N (xcall (Value.func (Fn.func 63) #[] #[]) [t10]) w fun t11 w3 =>
    FrX (some []) w w3 ∧ (N (xcall (Value.func (Fn.func 62) #[] #[]) [t9, t11]) w3 fun t12 w4 =>
    N (xu (Instr.storeAt 78 (e 4) t12)) w4 fun _ w5 =>
    k e w5)) (by kernel_rfl) (by kernel_rfl) (by kernel_rfl) (by intros; kernel_rfl)
noncomputable def c49_4_s:=@s_cond Try.prog 18 V49 c49_4 .skip 7 c49_5 (by kernel_rfl) (by kernel_rfl)
noncomputable def c49_3_s:=@s_reg Try.prog 18 V49 c49_3 c49_4 1 o49_1 (fun N M G k e w =>
    N (xv (Instr.fieldAt 34 (e 2) 3)) w fun t5 w =>
    N (xv (Instr.loadAt 2 t5)) w fun t6 w =>
    N (xv (xbin BinOp.eql 2 (Operand.tmp 6) (Operand.const (Value.int IntKind.i64 4611686018427387904)) t6 (Value.int IntKind.i64 4611686018427387904))) w fun t7 w =>
    k (Env.p e 7 t7) w) (by kernel_rfl) (by intros; kernel_rfl)
noncomputable def c49_1_s:=@s_seq Try.prog 18 V49 c49_1 c49_2 c49_3 (by kernel_rfl)
noncomputable def c49_s:=@s_reg Try.prog 18 V49 c49 c49_1 0 o49_0 (fun N M G k e w =>
    N (xv (Instr.box 34 (e 0))) w fun t2 w =>
    N (xv (Instr.alloc 78 true (.tuple #[]))) w fun t4 w =>
    k (Env.p (Env.p e 2 t2) 4 t4) w) (by kernel_rfl) (by intros; kernel_rfl)
theorem call49 {a0 a1 : Value} {w : World} {R : Value → World → Prop} (h : W3 Try.prog 18 V49 c49 (retQ Try.prog [.cell 4 78] R) (argE [a0, a1]) w) : CallsN Try.prog 49 [a0, a1] w R :=
  callsN_of_W3 (c := c49) (rs := [.cell 4 78]) V49 Try.ntmps49 (by rw [Try.results49]) mixed Try.func49 (by kernel_rfl) (by kernel_rfl) (by kernel_rfl) (by kernel_rfl) (by simp) h
noncomputable def w3t_49:=w3t Try.prog 18 V49
noncomputable def hk49 := And.intro @c49_2_s <| And.intro @c49_5_s <| And.intro @c49_4_s <| And.intro @c49_3_s <| And.intro @c49_1_s <| And.intro @c49_s <| @w3t_49
-- K49: ↓hk49
/-! ### (vouch/span.Span[int64]) . Meets -/
def V50 : Nat → Bool := fun i => [0, 1, 2, 3, 4].elem i
noncomputable def c50:Code:=(Try.f50.body.getD .skip)
noncomputable def o50_0:Array Oper:=rO (cL c50)
noncomputable def c50_1:Code:=(cR c50)
noncomputable def o50_1:Array Oper:=rO (cL c50_1)
noncomputable def c50_1_s:=@s_reg Try.prog 20 V50 c50_1 .ret 1 o50_1 (fun N M G k e w =>
    N (xv (Instr.loadAt 78 (e 2))) w fun t5 w =>
    N (xcall (Value.func (Fn.func 64) #[] #[]) [t5]) w fun t6 w =>
    N (xv (Op.unary UnOp.not t6)) w fun t7 w =>
    M t7 fun t8 =>
    G (isB t8 true) (fun K => N (xv (Instr.loadAt 78 (e 3))) w K) (fun t9 w =>
    G (isB t8 true) (fun K => N (xcall (Value.func (Fn.func 64) #[] #[]) [t9]) w K) (fun t10 w =>
    G (isB t8 true) (fun K => N (xv (Op.unary UnOp.not t10)) w K) (fun t11 w =>
    N (xpick t8 t11 (Value.bool false)) w fun t12 w =>
    M t12 fun t13 =>
    G (isB t13 true) (fun K => N (xv (Instr.loadAt 78 (e 2))) w K) (fun t14 w =>
    G (isB t13 true) (fun K => N (xv (Instr.loadAt 78 (e 3))) w K) (fun t15 w =>
    G (isB t13 true) (fun K => N (xcall (Value.func (Fn.func 65) #[] #[]) [t14, t15]) w K) (fun t16 w =>
    G (isB t13 true) (fun K => N (xcall (Value.func (Fn.func 64) #[] #[]) [t16]) w K) (fun t17 w =>
    G (isB t13 true) (fun K => N (xv (Op.unary UnOp.not t17)) w K) (fun t18 w =>
    N (xpick t13 t18 (Value.bool false)) w fun t19 w =>
    M t19 fun t4 =>
    k (Env.p e 4 t4) w) w) w) w) w) w) w) w) w) (by kernel_rfl) (by intros; kernel_rfl)
noncomputable def c50_s:=@s_reg Try.prog 20 V50 c50 c50_1 0 o50_0 (fun N M G k e w =>
    N (xv (Instr.box 78 (e 0))) w fun t2 w =>
    N (xv (Instr.box 78 (e 1))) w fun t3 w =>
    M (Value.bool false) fun t4 =>
    k (Env.p (Env.p (Env.p e 2 t2) 3 t3) 4 t4) w) (by kernel_rfl) (by intros; kernel_rfl)
theorem call50 {a0 a1 : Value} {w : World} {R : Value → World → Prop} (h : W3 Try.prog 20 V50 c50 (retQ Try.prog [.tmp 4] R) (argE [a0, a1]) w) : CallsN Try.prog 50 [a0, a1] w R :=
  callsN_of_W3 (c := c50) (rs := [.tmp 4]) V50 Try.ntmps50 (by rw [Try.results50]) mixed Try.func50 (by kernel_rfl) (by kernel_rfl) (by kernel_rfl) (by kernel_rfl) (by simp) h
noncomputable def w3t_50:=w3t Try.prog 20 V50
noncomputable def hk50 := And.intro @c50_1_s <| And.intro @c50_s <| @w3t_50
-- K50: ↓hk50
/-! ### vouch/fact.pinned -/
def V51 : Nat → Bool := fun i => [0, 1, 2].elem i
noncomputable def c51:Code:=(Try.f51.body.getD .skip)
noncomputable def o51_0:Array Oper:=rO (cL c51)
noncomputable def c51_1:Code:=(cR c51)
noncomputable def o51_1:Array Oper:=rO (cL c51_1)
noncomputable def c51_1_s:=@s_reg Try.prog 8 V51 c51_1 .ret 1 o51_1 (fun N M G k e w =>
    N (xv (Instr.fieldAt 38 (e 1) 0)) w fun t3 w =>
    N (xv (Instr.loadAt 2 t3)) w fun t4 w =>
    N (xv (Instr.fieldAt 38 (e 1) 1)) w fun t5 w =>
    N (xv (Instr.loadAt 2 t5)) w fun t6 w =>
    N (xcall (Value.func (Fn.func 62) #[] #[]) [t4, t6]) w fun t7 w =>
    N (xu (Instr.storeAt 78 (e 2) t7)) w fun _ w =>
    k e w) (by kernel_rfl) (by intros; kernel_rfl)
noncomputable def c51_s:=@s_reg Try.prog 8 V51 c51 c51_1 0 o51_0 (fun N M G k e w =>
    N (xv (Instr.box 38 (e 0))) w fun t1 w =>
    N (xv (Instr.alloc 78 true (.tuple #[]))) w fun t2 w =>
    k (Env.p (Env.p e 1 t1) 2 t2) w) (by kernel_rfl) (by intros; kernel_rfl)
theorem call51 {a0 : Value} {w : World} {R : Value → World → Prop} (h : W3 Try.prog 8 V51 c51 (retQ Try.prog [.cell 2 78] R) (argE [a0]) w) : CallsN Try.prog 51 [a0] w R :=
  callsN_of_W3 (c := c51) (rs := [.cell 2 78]) V51 Try.ntmps51 (by rw [Try.results51]) mixed Try.func51 (by kernel_rfl) (by kernel_rfl) (by kernel_rfl) (by kernel_rfl) (by simp) h
noncomputable def w3t_51:=w3t Try.prog 8 V51
noncomputable def hk51 := And.intro @c51_1_s <| And.intro @c51_s <| @w3t_51
-- K51: ↓hk51
/-! ### vouch/span.Of[int64] -/
def V62 : Nat → Bool := fun i => [0, 1, 4, 7].elem i
noncomputable def c62:Code:=(Try.f62.body.getD .skip)
noncomputable def o62_0:Array Oper:=rO (cL c62)
noncomputable def c62_1:Code:=(cR c62)
noncomputable def c62_2:Code:=(cR c62_1)
noncomputable def o62_3:Array Oper:=rO (cL c62_2)
noncomputable def c62_3:Code:=(cL c62_1)
noncomputable def o62_1:Array Oper:=rO (cL c62_3)
noncomputable def c62_4:Code:=(cR c62_3)
noncomputable def c62_5:Code:=(cL c62_4)
noncomputable def o62_2:Array Oper:=rO (cL c62_5)
noncomputable def c62_2_s:=@s_reg Try.prog 12 V62 c62_2 .ret 3 o62_3 (fun N M G k e w =>
    M (e 0) fun t9 =>
    M (e 1) fun t10 =>
    N (xv (Instr.build 78 ([(0, t9), (1, t10)]).toArray)) w fun t11 w =>
    N (xu (Instr.storeAt 78 (e 4) t11)) w fun _ w =>
    k e w) (by kernel_rfl) (by intros; kernel_rfl)
noncomputable def c62_5_s:=@s_reg Try.prog 12 V62 c62_5 .ret 2 o62_2 (fun N M G k e w =>
    N (xv (Instr.build 78 ([]).toArray)) w fun t8 w =>
    N (xu (Instr.storeAt 78 (e 4) t8)) w fun _ w =>
    k e w) (by kernel_rfl) (by intros; kernel_rfl)
noncomputable def c62_4_s:=@s_cond Try.prog 12 V62 c62_4 .skip 7 c62_5 (by kernel_rfl) (by kernel_rfl)
noncomputable def c62_3_s:=@s_reg Try.prog 12 V62 c62_3 c62_4 1 o62_1 (fun N M G k e w =>
    M (e 0) fun t5 =>
    M (e 1) fun t6 =>
    N (xv (xbin BinOp.geq 2 (Operand.tmp 5) (Operand.tmp 6) t5 t6)) w fun t7 w =>
    k (Env.p e 7 t7) w) (by kernel_rfl) (by intros; kernel_rfl)
noncomputable def c62_1_s:=@s_seq Try.prog 12 V62 c62_1 c62_2 c62_3 (by kernel_rfl)
noncomputable def c62_s:=@s_reg Try.prog 12 V62 c62 c62_1 0 o62_0 (fun N M G k e w =>
    N (xv (Instr.alloc 78 true (.tuple #[]))) w fun t4 w =>
    k (Env.p e 4 t4) w) (by kernel_rfl) (by intros; kernel_rfl)
theorem call62 {a0 a1 : Value} {w : World} {R : Value → World → Prop} (h : W3 Try.prog 12 V62 c62 (retQ Try.prog [.cell 4 78] R) (argE [a0, a1]) w) : CallsN Try.prog 62 [a0, a1] w R :=
  callsN_of_W3 (c := c62) (rs := [.cell 4 78]) V62 Try.ntmps62 (by rw [Try.results62]) mixed Try.func62 (by kernel_rfl) (by kernel_rfl) (by kernel_rfl) (by kernel_rfl) (by simp) h
noncomputable def w3t_62:=w3t Try.prog 12 V62
noncomputable def hk62 := And.intro @c62_2_s <| And.intro @c62_5_s <| And.intro @c62_4_s <| And.intro @c62_3_s <| And.intro @c62_1_s <| And.intro @c62_s <| @w3t_62
-- K62: ↓hk62
/-! ### vouch/fact.behind -/
def V63 : Nat → Bool := fun i => [0, 2].elem i
noncomputable def c63:Code:=(Try.f63.body.getD .skip)
noncomputable def o63_0:Array Oper:=rO (cL c63)
noncomputable def c63_1:Code:=(cR c63)
noncomputable def o63_1:Array Oper:=rO (cL c63_1)
noncomputable def c63_1_s:=@s_reg Try.prog 7 V63 c63_1 .ret 1 o63_1 (fun N M G k e w =>
    M (e 0) fun t3 =>
    N (builtin Builtin.max #[2, 2] 2 ([false, true]).toArray ([t3, (Value.int IntKind.i64 0)]).toArray) w fun t4 w =>
    N (builtin Builtin.min #[2, 2] 2 ([false, true]).toArray ([t4, (Value.int IntKind.i64 1099511627776)]).toArray) w fun t5 w =>
    N (xv (xbin BinOp.add 2 (Operand.tmp 5) (Operand.const (Value.int IntKind.i64 1)) t5 (Value.int IntKind.i64 1))) w fun t6 w =>
    M t6 fun t2 =>
    k (Env.p e 2 t2) w) (by kernel_rfl) (by intros; kernel_rfl)
noncomputable def c63_s:=@s_reg Try.prog 7 V63 c63 c63_1 0 o63_0 (fun N M G k e w =>
    M (Value.int IntKind.i64 0) fun t2 =>
    k (Env.p e 2 t2) w) (by kernel_rfl) (by intros; kernel_rfl)
theorem call63 {a0 : Value} {w : World} {R : Value → World → Prop} (h : W3 Try.prog 7 V63 c63 (retQ Try.prog [.tmp 2] R) (argE [a0]) w) : CallsN Try.prog 63 [a0] w R :=
  callsN_of_W3 (c := c63) (rs := [.tmp 2]) V63 Try.ntmps63 (by rw [Try.results63]) mixed Try.func63 (by kernel_rfl) (by kernel_rfl) (by kernel_rfl) (by kernel_rfl) (by simp) h
noncomputable def w3t_63:=w3t Try.prog 7 V63
noncomputable def hk63 := And.intro @c63_1_s <| And.intro @c63_s <| @w3t_63
-- K63: ↓hk63
/-! ### (vouch/span.Span[int64]) . Empty -/
def V64 : Nat → Bool := fun i => [0, 1, 2].elem i
noncomputable def c64:Code:=(Try.f64.body.getD .skip)
noncomputable def o64_0:Array Oper:=rO (cL c64)
noncomputable def c64_1:Code:=(cR c64)
noncomputable def o64_1:Array Oper:=rO (cL c64_1)
noncomputable def c64_1_s:=@s_reg Try.prog 8 V64 c64_1 .ret 1 o64_1 (fun N M G k e w =>
    N (xv (Instr.fieldAt 78 (e 1) 0)) w fun t3 w =>
    N (xv (Instr.loadAt 2 t3)) w fun t4 w =>
    N (xv (Instr.fieldAt 78 (e 1) 1)) w fun t5 w =>
    N (xv (Instr.loadAt 2 t5)) w fun t6 w =>
    N (xv (xbin BinOp.geq 2 (Operand.tmp 4) (Operand.tmp 6) t4 t6)) w fun t7 w =>
    M t7 fun t2 =>
    k (Env.p e 2 t2) w) (by kernel_rfl) (by intros; kernel_rfl)
noncomputable def c64_s:=@s_reg Try.prog 8 V64 c64 c64_1 0 o64_0 (fun N M G k e w =>
    N (xv (Instr.box 78 (e 0))) w fun t1 w =>
    M (Value.bool false) fun t2 =>
    k (Env.p (Env.p e 1 t1) 2 t2) w) (by kernel_rfl) (by intros; kernel_rfl)
theorem call64 {a0 : Value} {w : World} {R : Value → World → Prop} (h : W3 Try.prog 8 V64 c64 (retQ Try.prog [.tmp 2] R) (argE [a0]) w) : CallsN Try.prog 64 [a0] w R :=
  callsN_of_W3 (c := c64) (rs := [.tmp 2]) V64 Try.ntmps64 (by rw [Try.results64]) mixed Try.func64 (by kernel_rfl) (by kernel_rfl) (by kernel_rfl) (by kernel_rfl) (by simp) h
noncomputable def w3t_64:=w3t Try.prog 8 V64
noncomputable def hk64 := And.intro @c64_1_s <| And.intro @c64_s <| @w3t_64
-- K64: ↓hk64
/-! ### (vouch/span.Span[int64]) . Meet -/
def V65 : Nat → Bool := fun i => [0, 1, 2, 3, 4].elem i
noncomputable def c65:Code:=(Try.f65.body.getD .skip)
noncomputable def o65_0:Array Oper:=rO (cL c65)
noncomputable def c65_1:Code:=(cR c65)
noncomputable def o65_1:Array Oper:=rO (cL c65_1)
noncomputable def c65_1_s:=@s_reg Try.prog 16 V65 c65_1 .ret 1 o65_1 (fun N M G k e w =>
    N (xv (Instr.fieldAt 78 (e 2) 0)) w fun t5 w =>
    N (xv (Instr.loadAt 2 t5)) w fun t6 w =>
    N (xv (Instr.fieldAt 78 (e 3) 0)) w fun t7 w =>
    N (xv (Instr.loadAt 2 t7)) w fun t8 w =>
    N (builtin Builtin.max #[2, 2] 2 ([false, false]).toArray ([t6, t8]).toArray) w fun t9 w =>
    N (xv (Instr.fieldAt 78 (e 2) 1)) w fun t10 w =>
    N (xv (Instr.loadAt 2 t10)) w fun t11 w =>
    N (xv (Instr.fieldAt 78 (e 3) 1)) w fun t12 w =>
    N (xv (Instr.loadAt 2 t12)) w fun t13 w =>
    N (builtin Builtin.min #[2, 2] 2 ([false, false]).toArray ([t11, t13]).toArray) w fun t14 w =>
    N (xcall (Value.func (Fn.func 62) #[] #[]) [t9, t14]) w fun t15 w =>
    N (xu (Instr.storeAt 78 (e 4) t15)) w fun _ w =>
    k e w) (by kernel_rfl) (by intros; kernel_rfl)
noncomputable def c65_s:=@s_reg Try.prog 16 V65 c65 c65_1 0 o65_0 (fun N M G k e w =>
    N (xv (Instr.box 78 (e 0))) w fun t2 w =>
    N (xv (Instr.box 78 (e 1))) w fun t3 w =>
    N (xv (Instr.alloc 78 true (.tuple #[]))) w fun t4 w =>
    k (Env.p (Env.p (Env.p e 2 t2) 3 t3) 4 t4) w) (by kernel_rfl) (by intros; kernel_rfl)
theorem call65 {a0 a1 : Value} {w : World} {R : Value → World → Prop} (h : W3 Try.prog 16 V65 c65 (retQ Try.prog [.cell 4 78] R) (argE [a0, a1]) w) : CallsN Try.prog 65 [a0, a1] w R :=
  callsN_of_W3 (c := c65) (rs := [.cell 4 78]) V65 Try.ntmps65 (by rw [Try.results65]) mixed Try.func65 (by kernel_rfl) (by kernel_rfl) (by kernel_rfl) (by kernel_rfl) (by simp) h
noncomputable def w3t_65:=w3t Try.prog 16 V65
noncomputable def hk65 := And.intro @c65_1_s <| And.intro @c65_s <| @w3t_65
-- K65: ↓hk65
/-! ### vouch/vouchlaw10.TableNone -/
def V6 : Nat → Bool := fun i => [0, 1, 2, 3, 4, 5, 6, 7, 8, 10, 99].elem i
noncomputable def c6:Code:=(Try.f6.body.getD .skip)
noncomputable def o6_0:Array Oper:=rO (cL c6)
noncomputable def c6_1:Code:=(cR c6)
noncomputable def c6_2:Code:=(cR c6_1)
noncomputable def o6_3:Array Oper:=rO (cL c6_2)
noncomputable def c6_3:Code:=(cR c6_2)
noncomputable def o6_4:Array Oper:=rO (cL c6_3)
noncomputable def c6_4:Code:=(cR c6_3)
noncomputable def o6_5:Array Oper:=rO (cL c6_4)
noncomputable def c6_5:Code:=(cR c6_4)
noncomputable def c6_6:Code:=(cR c6_5)
noncomputable def o6_8:Array Oper:=rO (cL c6_6)
noncomputable def c6_7:Code:=(cR c6_6)
noncomputable def o6_9:Array Oper:=rO (cL c6_7)
noncomputable def c6_8:Code:=(cL c6_5)
noncomputable def o6_6:Array Oper:=rO (cL c6_8)
noncomputable def c6_9:Code:=(cR c6_8)
noncomputable def c6_10:Code:=(cL c6_9)
noncomputable def o6_7:Array Oper:=rO (cL c6_10)
noncomputable def c6_11:Code:=(cL c6_1)
noncomputable def o6_1:Array Oper:=rO (cL c6_11)
noncomputable def c6_12:Code:=(cR c6_11)
noncomputable def c6_13:Code:=(cL c6_12)
noncomputable def o6_2:Array Oper:=rO (cL c6_13)
noncomputable def c6_7_s:=@s_reg Try.prog 110 V6 c6_7 .ret 9 o6_9 (fun N M G k e w =>
    M (e 8) fun t102 =>
    N (xcall (Value.func (Fn.func 19) #[] #[]) [(Value.string ⟨#[97]⟩), (Value.int IntKind.i64 0), (Value.int IntKind.i64 1)]) w fun t103 w =>
    N (xcall (Value.func (Fn.func 15) #[] #[]) [t102, t103]) w fun t104 w =>
    M t104 fun t105 =>
    G (isB t105 true) (fun K => M (e 8) fun v => K v w) (fun t106 w =>
    G (isB t105 true) (fun K => N (xcall (Value.func (Fn.func 10) #[] #[]) [t106]) w K) (fun t107 w =>
    G (isB t105 true) (fun K => N (xv (xbin BinOp.eql 3 (Operand.tmp 107) (Operand.const (Value.int IntKind.i64 1)) t107 (Value.int IntKind.i64 1))) w K) (fun t108 w =>
    N (xpick t105 t108 (Value.bool false)) w fun t109 w =>
    M t109 fun t2 =>
    k (Env.p e 2 t2) w) w) w) w) (by kernel_rfl) (by intros; kernel_rfl)
noncomputable def c6_6_s:=@s_reg Try.prog 110 V6 c6_6 c6_7 8 o6_8 (fun N M G k e w =>
    N (xv (Instr.build 56 ([]).toArray)) w fun t100 w =>
    N (xv (Instr.box 56 t100)) w fun t101 w =>
    M t101 fun t8 =>
    k (Env.p e 8 t8) w) (by kernel_rfl) (by intros; kernel_rfl)
noncomputable def c6_10_s:=@s_reg Try.prog 110 V6 c6_10 .ret 7 o6_7 (fun N M G k e w =>
    M (Value.bool false) fun t2 =>
    k (Env.p e 2 t2) w) (by kernel_rfl) (by intros; kernel_rfl)
noncomputable def c6_9_s:=@s_cond Try.prog 110 V6 c6_9 .skip 99 c6_10 (by kernel_rfl) (by kernel_rfl)
noncomputable def c6_8_s:=@s_reg Try.prog 110 V6 c6_8 c6_9 6 o6_6 (fun N M G k e w =>
    M (e 3) fun t37 =>
    N (xv (Instr.fieldAt 40 (e 1) 1)) w fun t38 w =>
    N (xv (Instr.loadAt 36 t38)) w fun t39 w =>
    N (xcall (Value.func (Fn.func 15) #[] #[]) [t37, t39]) w fun t40 w =>
    M t40 fun t41 =>
    G (isB t41 false) (fun K => M (e 3) fun v => K v w) (fun t42 w =>
    G (isB t41 false) (fun K => N (xv (Instr.fieldAt 40 (e 1) 1)) w K) (fun t43 w =>
    G (isB t41 false) (fun K => N (xv (Instr.fieldAt 36 t43 0)) w K) (fun t44 w =>
    G (isB t41 false) (fun K => N (xv (Instr.fieldAt 34 t44 0)) w K) (fun t45 w =>
    G (isB t41 false) (fun K => N (xv (Instr.loadAt 9 t45)) w K) (fun t46 w =>
    G (isB t41 false) (fun K => N (xv (Instr.fieldAt 40 (e 1) 1)) w K) (fun t47 w =>
    G (isB t41 false) (fun K => N (xv (Instr.fieldAt 36 t47 0)) w K) (fun t48 w =>
    G (isB t41 false) (fun K => N (xv (Instr.fieldAt 34 t48 2)) w K) (fun t49 w =>
    G (isB t41 false) (fun K => N (xv (Instr.loadAt 2 t49)) w K) (fun t50 w =>
    G (isB t41 false) (fun K => N (xcall (Value.func (Fn.func 21) #[] #[]) [t42, t46, t50]) w K) (fun t51 w =>
    N (xpick t41 (Value.bool true) t51) w fun t52 w =>
    M t52 fun t53 =>
    G (isB t53 false) (fun K => N (xv (Instr.loadAt 36 (e 4))) w K) (fun t54 w =>
    G (isB t53 false) (fun K => N (xv (Instr.build 36 ([]).toArray)) w K) (fun t55 w =>
    G (isB t53 false) (fun K => N (xv (xbin BinOp.neq 36 (Operand.tmp 54) (Operand.tmp 55) t54 t55)) w K) (fun t56 w =>
    N (xpick t53 (Value.bool true) t56) w fun t57 w =>
    M t57 fun t58 =>
    G (isB t58 false) (fun K => M (e 5) fun v => K v w) (fun t59 w =>
    N (xpick t58 (Value.bool true) t59) w fun t60 w =>
    M t60 fun t61 =>
    G (isB t61 false) (fun K => N (xv (Instr.loadAt 36 (e 6))) w K) (fun t62 w =>
    G (isB t61 false) (fun K => N (xv (Instr.build 36 ([]).toArray)) w K) (fun t63 w =>
    G (isB t61 false) (fun K => N (xv (xbin BinOp.neq 36 (Operand.tmp 62) (Operand.tmp 63) t62 t63)) w K) (fun t64 w =>
    N (xpick t61 (Value.bool true) t64) w fun t65 w =>
    M t65 fun t66 =>
    G (isB t66 false) (fun K => M (e 7) fun v => K v w) (fun t67 w =>
    N (xpick t66 (Value.bool true) t67) w fun t68 w =>
    M t68 fun t69 =>
    G (isB t69 false) (fun K => M (e 3) fun v => K v w) (fun t70 w =>
    G (isB t69 false) (fun K => N (xcall (Value.func (Fn.func 14) #[] #[]) [t70]) w K) (fun t71 w =>
    G (isB t69 false) (fun K => N (builtin Builtin.len #[27] 3 ([false]).toArray ([t71]).toArray) w K) (fun t72 w =>
    G (isB t69 false) (fun K => N (xv (xbin BinOp.neq 3 (Operand.tmp 72) (Operand.const (Value.int IntKind.i64 0)) t72 (Value.int IntKind.i64 0))) w K) (fun t73 w =>
    N (xpick t69 (Value.bool true) t73) w fun t74 w =>
    M t74 fun t75 =>
    G (isB t75 false) (fun K => M (e 3) fun v => K v w) (fun t76 w =>
    G (isB t75 false) (fun K => N (xv (Instr.fieldAt 40 (e 1) 1)) w K) (fun t77 w =>
    G (isB t75 false) (fun K => N (xv (Instr.fieldAt 36 t77 0)) w K) (fun t78 w =>
    G (isB t75 false) (fun K => N (xv (Instr.fieldAt 34 t78 0)) w K) (fun t79 w =>
    G (isB t75 false) (fun K => N (xv (Instr.loadAt 9 t79)) w K) (fun t80 w =>
    G (isB t75 false) (fun K => N (xcall (Value.func (Fn.func 18) #[] #[]) [t76, t80]) w K) (fun t81 w =>
    G (isB t75 false) (fun K => N (builtin Builtin.len #[27] 3 ([false]).toArray ([t81]).toArray) w K) (fun t82 w =>
    G (isB t75 false) (fun K => N (xv (xbin BinOp.neq 3 (Operand.tmp 82) (Operand.const (Value.int IntKind.i64 0)) t82 (Value.int IntKind.i64 0))) w K) (fun t83 w =>
    N (xpick t75 (Value.bool true) t83) w fun t84 w =>
    M t84 fun t85 =>
    G (isB t85 false) (fun K => M (e 3) fun v => K v w) (fun t86 w =>
    G (isB t85 false) (fun K => N (xcall (Value.func (Fn.func 10) #[] #[]) [t86]) w K) (fun t87 w =>
    G (isB t85 false) (fun K => N (xv (xbin BinOp.neq 3 (Operand.tmp 87) (Operand.const (Value.int IntKind.i64 0)) t87 (Value.int IntKind.i64 0))) w K) (fun t88 w =>
    N (xpick t85 (Value.bool true) t88) w fun t89 w =>
    M t89 fun t90 =>
    G (isB t90 false) (fun K => M (e 3) fun v => K v w) (fun t91 w =>
    G (isB t90 false) (fun K => N (xcall (Value.func (Fn.func 11) #[] #[]) [t91]) w K) (fun t92 w =>
    G (isB t90 false) (fun K => N (xv (xbin BinOp.neq 3 (Operand.tmp 92) (Operand.const (Value.int IntKind.i64 0)) t92 (Value.int IntKind.i64 0))) w K) (fun t93 w =>
    N (xpick t90 (Value.bool true) t93) w fun t94 w =>
    M t94 fun t95 =>
    G (isB t95 false) (fun K => M (e 3) fun v => K v w) (fun t96 w =>
    G (isB t95 false) (fun K => N (xcall (Value.func (Fn.func 20) #[] #[]) [t96]) w K) (fun t97 w =>
    G (isB t95 false) (fun K => N (xv (xbin BinOp.neq 24 (Operand.tmp 97) (Operand.const (Value.pointer none)) t97 (Value.pointer none))) w K) (fun t98 w =>
    N (xpick t95 (Value.bool true) t98) w fun t99 w =>
    k (Env.p e 99 t99) w) w) w) w) w) w) w) w) w) w) w) w) w) w) w) w) w) w) w) w) w) w) w) w) w) w) w) w) w) w) w) w) w) w) w) w) w) w) w) w) (by kernel_rfl) (by intros; kernel_rfl)
noncomputable def c6_5_s:=@s_seq Try.prog 110 V6 c6_5 c6_6 c6_8 (by kernel_rfl)
noncomputable def c6_4_s:=@s_reg Try.prog 110 V6 c6_4 c6_5 5 o6_5 (fun N M G k e w =>
    M (e 3) fun t25 =>
    N (xv (Instr.fieldAt 40 (e 1) 1)) w fun t26 w =>
    N (xv (Instr.fieldAt 36 t26 0)) w fun t27 w =>
    N (xv (Instr.fieldAt 34 t27 0)) w fun t28 w =>
    N (xv (Instr.loadAt 9 t28)) w fun t29 w =>
    N (xv (Instr.fieldAt 40 (e 1) 2)) w fun t30 w =>
    N (xv (Instr.loadAt 2 t30)) w fun t31 w =>
    N (xv (Instr.fieldAt 40 (e 1) 3)) w fun t32 w =>
    N (xv (Instr.loadAt 38 t32)) w fun t33 w =>
    N (xcall (Value.func (Fn.func 16) #[] #[]) [t25, t29, t31, t33]) w fun t34 w =>
    M t34 fun t24 =>
    N (xv (Instr.extract t24 0)) w fun t35 w =>
    N (xv (Instr.extract t24 1)) w fun t36 w =>
    N (xv (Instr.alloc 36 true (.tuple #[]))) w fun t6 w =>
    N (xu (Instr.storeAt 36 t6 t35)) w fun _ w =>
    M t36 fun t7 =>
    k (Env.p (Env.p e 6 t6) 7 t7) w) (by kernel_rfl) (by intros; kernel_rfl)
noncomputable def c6_3_s:=@s_reg Try.prog 110 V6 c6_3 c6_4 4 o6_4 (fun N M G k e w =>
    M (e 3) fun t12 =>
    N (xv (Instr.fieldAt 40 (e 1) 1)) w fun t13 w =>
    N (xv (Instr.fieldAt 36 t13 0)) w fun t14 w =>
    N (xv (Instr.fieldAt 34 t14 0)) w fun t15 w =>
    N (xv (Instr.loadAt 9 t15)) w fun t16 w =>
    N (xv (Instr.fieldAt 40 (e 1) 1)) w fun t17 w =>
    N (xv (Instr.fieldAt 36 t17 0)) w fun t18 w =>
    N (xv (Instr.fieldAt 34 t18 2)) w fun t19 w =>
    N (xv (Instr.loadAt 2 t19)) w fun t20 w =>
    N (xcall (Value.func (Fn.func 17) #[] #[]) [t12, t16, t20]) w fun t21 w =>
    M t21 fun t11 =>
    N (xv (Instr.extract t11 0)) w fun t22 w =>
    N (xv (Instr.extract t11 1)) w fun t23 w =>
    N (xv (Instr.alloc 36 true (.tuple #[]))) w fun t4 w =>
    N (xu (Instr.storeAt 36 t4 t22)) w fun _ w =>
    M t23 fun t5 =>
    k (Env.p (Env.p e 4 t4) 5 t5) w) (by kernel_rfl) (by intros; kernel_rfl)
noncomputable def c6_2_s:=@s_reg Try.prog 110 V6 c6_2 c6_3 3 o6_3 (fun N M G k e w =>
    M (Value.pointer none) fun t3 =>
    k (Env.p e 3 t3) w) (by kernel_rfl) (by intros; kernel_rfl)
noncomputable def c6_13_s:=@s_reg Try.prog 110 V6 c6_13 .ret 2 o6_2 (fun N M G k e w =>
    M (Value.bool false) fun t2 =>
    k (Env.p e 2 t2) w) (by kernel_rfl) (by intros; kernel_rfl)
noncomputable def c6_12_s:=@s_cond Try.prog 110 V6 c6_12 .skip 10 c6_13 (by kernel_rfl) (by kernel_rfl)
noncomputable def c6_11_s:=@s_reg Try.prog 110 V6 c6_11 c6_12 1 o6_1 (fun N M G k e w =>
    N (xcall (Value.func (Fn.func 7) #[] #[]) []) w fun t9 w =>
    N (xv (Op.unary UnOp.not t9)) w fun t10 w =>
    k (Env.p e 10 t10) w) (by kernel_rfl) (by intros; kernel_rfl)
noncomputable def c6_1_s:=@s_seq Try.prog 110 V6 c6_1 c6_2 c6_11 (by kernel_rfl)
noncomputable def c6_s:=@s_reg Try.prog 110 V6 c6 c6_1 0 o6_0 (fun N M G k e w =>
    N (xv (Instr.box 40 (e 0))) w fun t1 w =>
    M (Value.bool false) fun t2 =>
    k (Env.p (Env.p e 1 t1) 2 t2) w) (by kernel_rfl) (by intros; kernel_rfl)
theorem call6 {a0 : Value} {w : World} {R : Value → World → Prop} (h : W3 Try.prog 110 V6 c6 (retQ Try.prog [.tmp 2] R) (argE [a0]) w) : CallsN Try.prog 6 [a0] w R :=
  callsN_of_W3 (c := c6) (rs := [.tmp 2]) V6 Try.ntmps6 (by rw [Try.results6]) mixed Try.func6 (by kernel_rfl) (by kernel_rfl) (by kernel_rfl) (by kernel_rfl) (by simp) h
noncomputable def w3t_6:=w3t Try.prog 110 V6
noncomputable def hk6 := And.intro @c6_7_s <| And.intro @c6_6_s <| And.intro @c6_10_s <| And.intro @c6_9_s <| And.intro @c6_8_s <| And.intro @c6_5_s <| And.intro @c6_4_s <| And.intro @c6_3_s <| And.intro @c6_2_s <| And.intro @c6_13_s <| And.intro @c6_12_s <| And.intro @c6_11_s <| And.intro @c6_1_s <| And.intro @c6_s <| @w3t_6
-- K6: ↓hk6
/-! ### vouch/vouchlaw10.TableFinds -/
def V4 : Nat → Bool := fun i => [0, 1, 2, 3, 4, 10, 11, 12, 13, 14, 15, 16, 17, 18, 19, 20, 21, 22, 24, 34, 57, 68, 93, 133, 135].elem i
noncomputable def c4:Code:=(Try.f4.body.getD .skip)
noncomputable def o4_0:Array Oper:=rO (cL c4)
noncomputable def c4_1:Code:=(cR c4)
noncomputable def c4_2:Code:=(cR c4_1)
noncomputable def o4_3:Array Oper:=rO (cL c4_2)
noncomputable def c4_3:Code:=(cR c4_2)
noncomputable def o4_4:Array Oper:=rO (cL c4_3)
noncomputable def c4_4:Code:=(cR c4_3)
noncomputable def c4_5:Code:=(cR c4_4)
noncomputable def o4_9:Array Oper:=rO (cL c4_5)
noncomputable def c4_6:Code:=(cR c4_5)
noncomputable def o4_10:Array Oper:=rO (cL c4_6)
noncomputable def c4_7:Code:=(cR c4_6)
noncomputable def o4_11:Array Oper:=rO (cL c4_7)
noncomputable def c4_8:Code:=(cR c4_7)
noncomputable def c4_9:Code:=(cR c4_8)
noncomputable def c4_10:Code:=(cR c4_9)
noncomputable def o4_25:Array Oper:=rO (cL c4_10)
noncomputable def c4_11:Code:=(cR c4_10)
noncomputable def o4_26:Array Oper:=rO (cL c4_11)
noncomputable def c4_12:Code:=(cL c4_9)
noncomputable def o4_23:Array Oper:=rO (cL c4_12)
noncomputable def c4_13:Code:=(cR c4_12)
noncomputable def c4_14:Code:=(cL c4_13)
noncomputable def o4_24:Array Oper:=rO (cL c4_14)
noncomputable def c4_15:Code:=(cL c4_8)
noncomputable def o4_12:Array Oper:=rO (cL c4_15)
noncomputable def c4_16:Code:=(cR c4_15)
noncomputable def c4_17:Code:=(cL c4_16)
noncomputable def c4_18:Code:=(cL c4_17)
noncomputable def c4_19:Code:=(cR c4_18)
noncomputable def c4_20:Code:=(cR c4_19)
noncomputable def o4_14:Array Oper:=rO c4_20
noncomputable def c4_21:Code:=(cL c4_19)
noncomputable def c4_22:Code:=(cL c4_21)
noncomputable def o4_15:Array Oper:=rO (cL c4_22)
noncomputable def c4_23:Code:=(cR c4_22)
noncomputable def o4_16:Array Oper:=rO (cL c4_23)
noncomputable def c4_24:Code:=(cR c4_23)
noncomputable def c4_25:Code:=(cR c4_24)
noncomputable def c4_26:Code:=(cR c4_25)
noncomputable def o4_21:Array Oper:=rO (cL c4_26)
noncomputable def b4_21:List Row:=[(0, 0, 262144, 97, true), (1, 1, 79228162514264337593543950336, 98, true), (2, 3, 158456325028528675187087900672, 99, true), (4, 7, 316912650057057350374175866880, 100, true), (4, 7, 316912650057057350374176063488, 101, true), (20, 23, 1584563250285286751870879006720, 102, true), (44, 63, 3486039150627630854115933814784, 103, true), (68, 127, 5387515050969974956360988622848, 104, true), (132, 255, 10458117451882892562347801444352, 105, true), (260, 511, 20599322253708727774321427087360, 106, true), (4, 7, 316912650057057350374176325632, 107, true), (1028, 1031, 81446551064663739046163180945408, 108, true), (2564, 4095, 203141008686573761589846688661504, 109, true), (4100, 8191, 324835466308483784133530196377600, 110, true), (8192, 16383, 649037107316853453566312041218048, 111, true), (8192, 16383, 649037107316853453566312041414656, 112, true), (40960, 49151, 3245185536584267267831560205762560, 113, true), (90112, 131071, 7139408180485387989229432452677632, 114, true), (139264, 262143, 11033630824386508710627304699592704, 115, true), (270336, 524287, 21418224541456163967688297358032896, 116, true), (532480, 1048575, 42187411975595474481810282674913280, 117, true), (8192, 16383, 649037107316853453566312041676800, 118, true), (2105344, 2113535, 166802536580431337566542194576195584, 119, true), (5251072, 8388607, 416032785790103063736006018378760192, 120, true), (8396800, 16777215, 665263034999774789905469842181324800, 121, true), (16777216, 33554431, 1329227995784915872903807060280410112, 122, true), (16777216, 33554431, 1329227995784915872903807060280606720, 123, true), (83886080, 100663295, 6646139978924579364519035301401722880, 124, true), (184549376, 268435455, 14621507953634074601941877663083790336, 125, true), (285212672, 536870911, 22596875928343569839364720024765857792, 126, true), (553648128, 1073741823, 43864523860902223805825632989251371008, 127, true), (1090519040, 2147483647, 86399819726019531738747458918222397440, 128, true), (16777216, 33554431, 1329227995784915872903807060280868864, 129, true), (4311744512, 4328521727, 341611594916723379336278414492048556032, 130, true), (10754195456, 17179869183, 852035145298131074531340325639700873216, 131, true), (17196654592, 34359738367, 1362459344716646086579855803099394342912, 132, true), (34359746564, 68719476735, 2722259584721527674617507776140362645504, 133, true), (68719476740, 137438953471, 5444517871051928065471051069282467184640, 134, true)]
noncomputable def c4_27:Code:=(cR c4_26)
noncomputable def c4_28:Code:=(cL c4_27)
noncomputable def o4_22:Array Oper:=rO (cL c4_28)
noncomputable def c4_29:Code:=(cL c4_25)
noncomputable def o4_19:Array Oper:=rO (cL c4_29)
noncomputable def c4_30:Code:=(cR c4_29)
noncomputable def c4_31:Code:=(cL c4_30)
noncomputable def o4_20:Array Oper:=rO c4_31
noncomputable def c4_32:Code:=(cL c4_24)
noncomputable def o4_17:Array Oper:=rO (cL c4_32)
noncomputable def c4_33:Code:=(cR c4_32)
noncomputable def c4_34:Code:=(cL c4_33)
noncomputable def o4_18:Array Oper:=rO c4_34
noncomputable def c4_35:Code:=(cL c4_18)
noncomputable def o4_13:Array Oper:=rO (cL c4_35)
noncomputable def c4_36:Code:=(cR c4_35)
noncomputable def c4_37:Code:=(cL c4_4)
noncomputable def o4_5:Array Oper:=rO (cL c4_37)
noncomputable def c4_38:Code:=(cR c4_37)
noncomputable def c4_39:Code:=(cL c4_38)
noncomputable def c4_40:Code:=(cL c4_39)
noncomputable def c4_41:Code:=(cR c4_40)
noncomputable def c4_42:Code:=(cR c4_41)
noncomputable def o4_7:Array Oper:=rO c4_42
noncomputable def c4_43:Code:=(cL c4_41)
noncomputable def c4_44:Code:=(cL c4_43)
noncomputable def o4_8:Array Oper:=rO c4_44
noncomputable def c4_45:Code:=(cL c4_40)
noncomputable def o4_6:Array Oper:=rO (cL c4_45)
noncomputable def c4_46:Code:=(cR c4_45)
noncomputable def c4_47:Code:=(cL c4_1)
noncomputable def o4_1:Array Oper:=rO (cL c4_47)
noncomputable def c4_48:Code:=(cR c4_47)
noncomputable def c4_49:Code:=(cL c4_48)
noncomputable def o4_2:Array Oper:=rO (cL c4_49)
noncomputable def c4_11_s:=@s_reg Try.prog 173 V4 c4_11 .ret 26 o4_26 (fun N M G k e w =>
    M (e 15) fun t150 =>
    M t150 fun t151 =>
    G (isB t151 true) (fun K => M (e 22) fun v => K v w) (fun t152 w =>
    N (xpick t151 t152 (Value.bool false)) w fun t153 w =>
    M t153 fun t154 =>
    G (isB t154 true) (fun K => N (xv (Instr.loadAt 36 (e 14))) w K) (fun t155 w =>
    G (isB t154 true) (fun K => N (xv (Instr.loadAt 36 (e 21))) w K) (fun t156 w =>
    G (isB t154 true) (fun K => N (xv (xbin BinOp.eql 36 (Operand.tmp 155) (Operand.tmp 156) t155 t156)) w K) (fun t157 w =>
    N (xpick t154 t157 (Value.bool false)) w fun t158 w =>
    M t158 fun t159 =>
    G (isB t159 true) (fun K => N (xv (Instr.fieldAt 36 (e 14) 0)) w K) (fun t160 w =>
    G (isB t159 true) (fun K => N (xv (Instr.fieldAt 34 t160 0)) w K) (fun t161 w =>
    G (isB t159 true) (fun K => N (xv (Instr.loadAt 9 t161)) w K) (fun t162 w =>
    G (isB t159 true) (fun K => M (e 1) fun v => K v w) (fun t163 w =>
    G (isB t159 true) (fun K => N (xv (xbin BinOp.eql 9 (Operand.tmp 162) (Operand.tmp 163) t162 t163)) w K) (fun t164 w =>
    N (xpick t159 t164 (Value.bool false)) w fun t165 w =>
    M t165 fun t166 =>
    G (isB t166 true) (fun K => N (xv (Instr.fieldAt 36 (e 14) 0)) w K) (fun t167 w =>
    G (isB t166 true) (fun K => N (xv (Instr.fieldAt 34 t167 2)) w K) (fun t168 w =>
    G (isB t166 true) (fun K => N (xv (Instr.loadAt 2 t168)) w K) (fun t169 w =>
    G (isB t166 true) (fun K => M (e 17) fun v => K v w) (fun t170 w =>
    G (isB t166 true) (fun K => N (xv (xbin BinOp.eql 2 (Operand.tmp 169) (Operand.tmp 170) t169 t170)) w K) (fun t171 w =>
    N (xpick t166 t171 (Value.bool false)) w fun t172 w =>
    M t172 fun t10 =>
    k (Env.p e 10 t10) w) w) w) w) w) w) w) w) w) w) w) w) w) w) w) (by kernel_rfl) (by intros; kernel_rfl)
noncomputable def c4_10_s:=@s_reg Try.prog 173 V4 c4_10 c4_11 25 o4_25 (fun N M G k e w =>
    M (e 11) fun t144 =>
    M (e 1) fun t145 =>
    M (e 17) fun t146 =>
    N (xcall (Value.func (Fn.func 17) #[] #[]) [t144, t145, t146]) w fun t147 w =>
    M t147 fun t143 =>
    N (xv (Instr.extract t143 0)) w fun t148 w =>
    N (xv (Instr.extract t143 1)) w fun t149 w =>
    N (xv (Instr.alloc 36 true (.tuple #[]))) w fun t21 w =>
    N (xu (Instr.storeAt 36 t21 t148)) w fun _ w =>
    M t149 fun t22 =>
    k (Env.p (Env.p e 21 t21) 22 t22) w) (by kernel_rfl) (by intros; kernel_rfl)
noncomputable def c4_14_s:=@s_reg Try.prog 173 V4 c4_14 .ret 24 o4_24 (fun N M G k e w =>
    M (e 15) fun t136 =>
    N (xv (Op.unary UnOp.not t136)) w fun t137 w =>
    M t137 fun t138 =>
    G (isB t138 true) (fun K => N (xv (Instr.loadAt 36 (e 14))) w K) (fun t139 w =>
    G (isB t138 true) (fun K => N (xv (Instr.build 36 ([]).toArray)) w K) (fun t140 w =>
    G (isB t138 true) (fun K => N (xv (xbin BinOp.eql 36 (Operand.tmp 139) (Operand.tmp 140) t139 t140)) w K) (fun t141 w =>
    N (xpick t138 t141 (Value.bool false)) w fun t142 w =>
    M t142 fun t10 =>
    k (Env.p e 10 t10) w) w) w) w) (by kernel_rfl) (by intros; kernel_rfl)
noncomputable def c4_13_s:=@s_cond Try.prog 173 V4 c4_13 .skip 135 c4_14 (by kernel_rfl) (by kernel_rfl)
noncomputable def c4_12_s:=@s_reg Try.prog 173 V4 c4_12 c4_13 23 o4_23 (fun N M G k e w =>
    M (e 17) fun t134 =>
    N (xv (xbin BinOp.lss 2 (Operand.tmp 134) (Operand.const (Value.int IntKind.i64 0)) t134 (Value.int IntKind.i64 0))) w fun t135 w =>
    k (Env.p e 135 t135) w) (by kernel_rfl) (by intros; kernel_rfl)
noncomputable def c4_9_s:=@s_seq Try.prog 173 V4 c4_9 c4_10 c4_12 (by kernel_rfl)
noncomputable def c4_20_s:=@s_rend Try.prog 173 V4 c4_20 14 o4_14 (fun N M G k e w =>
    M (e 18) fun t58 =>
    N (xv (xbin BinOp.add 3 (Operand.tmp 58) (Operand.const (Value.int IntKind.i64 1)) t58 (Value.int IntKind.i64 1))) w fun t59 w =>
    M t59 fun t18 =>
    k (Env.p e 18 t18) w) (by kernel_rfl) (by intros; kernel_rfl)
noncomputable def c4_28_s:=@s_reg Try.prog 173 V4 c4_28 .ret 22 o4_22 (fun N M G k e w =>
    M (Value.bool false) fun t10 =>
    k (Env.p e 10 t10) w) (by kernel_rfl) (by intros; kernel_rfl)
noncomputable def c4_27_s:=@s_cond Try.prog 173 V4 c4_27 .skip 133 c4_28 (by kernel_rfl) (by kernel_rfl)
noncomputable def c4_26_s:=@s_drw Try.prog 173 V4 c4_26 c4_27 21 o4_21 b4_21 38 (fun N T M G H k e w =>
    M (e 18) fun t96 =>
    T (FrX none w) (xv (xbin BinOp.gtr 3 (Operand.tmp 96) (Operand.const (Value.int IntKind.i64 0)) t96 (Value.int IntKind.i64 0))) fun t97 =>
    M t97 fun t98 =>
    H (isB t98 true) (fun K => M (e 16) K) (fun t99 =>
    H (isB t98 true) (fun K => M (e 18) K) (fun t100 =>
    H (isB t98 true) (fun K => T (FrX none w) (xv (xbin BinOp.sub 3 (Operand.tmp 100) (Operand.const (Value.int IntKind.i64 1)) t100 (Value.int IntKind.i64 1))) K) (fun t101 =>
    H (isB t98 true) (fun K => T (FrX none w) (xv (Instr.indexAt 27 t99 t101)) K) (fun t102 =>
    H (isB t98 true) (fun K => T (FrX none w) (xv (Instr.fieldAt 36 t102 0)) K) (fun t103 =>
    H (isB t98 true) (fun K => T (FrX none w) (xv (Instr.fieldAt 34 t103 0)) K) (fun t104 =>
    H (isB t98 true) (fun K => T (FrX (some []) w) (xv (Instr.loadAt 9 t104)) K) (fun t105 =>
    H (isB t98 true) (fun K => T (FrX none w) (xv (Instr.fieldAt 34 (e 19) 0)) K) (fun t106 =>
    H (isB t98 true) (fun K => T (FrX (some []) w) (xv (Instr.loadAt 9 t106)) K) (fun t107 =>
    H (isB t98 true) (fun K => T (FrX none w) (xv (xbin BinOp.gtr 9 (Operand.tmp 105) (Operand.tmp 107) t105 t107)) K) (fun t108 =>
    H (isB t98 true) (fun K => M t108 K) (fun t109 =>
    H (isB t109 false) (fun K => M (e 16) K) (fun t110 =>
    H (isB t109 false) (fun K => M (e 18) K) (fun t111 =>
    H (isB t109 false) (fun K => T (FrX none w) (xv (xbin BinOp.sub 3 (Operand.tmp 111) (Operand.const (Value.int IntKind.i64 1)) t111 (Value.int IntKind.i64 1))) K) (fun t112 =>
    H (isB t109 false) (fun K => T (FrX none w) (xv (Instr.indexAt 27 t110 t112)) K) (fun t113 =>
    H (isB t109 false) (fun K => T (FrX none w) (xv (Instr.fieldAt 36 t113 0)) K) (fun t114 =>
    H (isB t109 false) (fun K => T (FrX none w) (xv (Instr.fieldAt 34 t114 0)) K) (fun t115 =>
    H (isB t109 false) (fun K => T (FrX (some []) w) (xv (Instr.loadAt 9 t115)) K) (fun t116 =>
    H (isB t109 false) (fun K => T (FrX none w) (xv (Instr.fieldAt 34 (e 19) 0)) K) (fun t117 =>
    H (isB t109 false) (fun K => T (FrX (some []) w) (xv (Instr.loadAt 9 t117)) K) (fun t118 =>
    H (isB t109 false) (fun K => T (FrX none w) (xv (xbin BinOp.eql 9 (Operand.tmp 116) (Operand.tmp 118) t116 t118)) K) (fun t119 =>
    H (isB t109 false) (fun K => M t119 K) (fun t120 =>
    H (isB t120 true) (fun K => M (e 16) K) (fun t121 =>
    H (isB t120 true) (fun K => M (e 18) K) (fun t122 =>
    H (isB t120 true) (fun K => T (FrX none w) (xv (xbin BinOp.sub 3 (Operand.tmp 122) (Operand.const (Value.int IntKind.i64 1)) t122 (Value.int IntKind.i64 1))) K) (fun t123 =>
    H (isB t120 true) (fun K => T (FrX none w) (xv (Instr.indexAt 27 t121 t123)) K) (fun t124 =>
    H (isB t120 true) (fun K => T (FrX none w) (xv (Instr.fieldAt 36 t124 0)) K) (fun t125 =>
    H (isB t120 true) (fun K => T (FrX none w) (xv (Instr.fieldAt 34 t125 2)) K) (fun t126 =>
    H (isB t120 true) (fun K => T (FrX (some []) w) (xv (Instr.loadAt 2 t126)) K) (fun t127 =>
    H (isB t120 true) (fun K => T (FrX none w) (xv (Instr.fieldAt 34 (e 19) 2)) K) (fun t128 =>
    H (isB t120 true) (fun K => T (FrX (some []) w) (xv (Instr.loadAt 2 t128)) K) (fun t129 =>
    H (isB t120 true) (fun K => T (FrX none w) (xv (xbin BinOp.geq 2 (Operand.tmp 127) (Operand.tmp 129) t127 t129)) K) (fun t130 =>
    H (isB t109 false) (fun K => T (FrX none w) (xpick t120 t130 (Value.bool false)) K) (fun t131 =>
    H (isB t98 true) (fun K => T (FrX none w) (xpick t109 (Value.bool true) t131) K) (fun t132 =>
    T (FrX none w) (xpick t98 t132 (Value.bool false)) fun t133 =>
    k (Env.p e 133 t133) w))))))))))))))))))))))))))))))))))) (by kernel_rfl) (by kernel_rfl) (by kernel_rfl) (by intros; kernel_rfl)
noncomputable def c4_31_s:=@s_rend Try.prog 173 V4 c4_31 20 o4_20 (fun N M G k e w =>
    N (xv (Instr.fieldAt 34 (e 19) 2)) w fun t94 w =>
    N (xv (Instr.loadAt 2 t94)) w fun t95 w =>
    M t95 fun t17 =>
    k (Env.p e 17 t17) w) (by kernel_rfl) (by intros; kernel_rfl)
noncomputable def c4_30_s:=@s_cond Try.prog 173 V4 c4_30 .skip 93 c4_31 (by kernel_rfl) (by kernel_rfl)
noncomputable def c4_29_s:=@s_reg Try.prog 173 V4 c4_29 c4_30 19 o4_19 (fun N M G k e w =>
    N (xv (Instr.fieldAt 34 (e 19) 0)) w fun t72 w =>
    N (xv (Instr.loadAt 9 t72)) w fun t73 w =>
    M (e 1) fun t74 =>
    N (xv (xbin BinOp.eql 9 (Operand.tmp 73) (Operand.tmp 74) t73 t74)) w fun t75 w =>
    M t75 fun t76 =>
    G (isB t76 true) (fun K => N (xv (Instr.fieldAt 34 (e 19) 2)) w K) (fun t77 w =>
    G (isB t76 true) (fun K => N (xv (Instr.loadAt 2 t77)) w K) (fun t78 w =>
    G (isB t76 true) (fun K => N (xv (Instr.fieldAt 38 (e 12) 0)) w K) (fun t79 w =>
    G (isB t76 true) (fun K => N (xv (Instr.loadAt 2 t79)) w K) (fun t80 w =>
    G (isB t76 true) (fun K => N (builtin Builtin.max #[2, 2] 2 ([false, false]).toArray ([t78, t80]).toArray) w K) (fun t81 w =>
    G (isB t76 true) (fun K => M (e 20) fun v => K v w) (fun t82 w =>
    G (isB t76 true) (fun K => N (xv (Instr.fieldAt 38 (e 12) 1)) w K) (fun t83 w =>
    G (isB t76 true) (fun K => N (xv (Instr.loadAt 2 t83)) w K) (fun t84 w =>
    G (isB t76 true) (fun K => N (builtin Builtin.min #[2, 2] 2 ([false, false]).toArray ([t82, t84]).toArray) w K) (fun t85 w =>
    G (isB t76 true) (fun K => N (xv (xbin BinOp.lss 2 (Operand.tmp 81) (Operand.tmp 85) t81 t85)) w K) (fun t86 w =>
    N (xpick t76 t86 (Value.bool false)) w fun t87 w =>
    M t87 fun t88 =>
    G (isB t88 true) (fun K => N (xv (Instr.fieldAt 34 (e 19) 2)) w K) (fun t89 w =>
    G (isB t88 true) (fun K => N (xv (Instr.loadAt 2 t89)) w K) (fun t90 w =>
    G (isB t88 true) (fun K => M (e 17) fun v => K v w) (fun t91 w =>
    G (isB t88 true) (fun K => N (xv (xbin BinOp.gtr 2 (Operand.tmp 90) (Operand.tmp 91) t90 t91)) w K) (fun t92 w =>
    N (xpick t88 t92 (Value.bool false)) w fun t93 w =>
    k (Env.p e 93 t93) w) w) w) w) w) w) w) w) w) w) w) w) w) w) w) (by kernel_rfl) (by intros; kernel_rfl)
noncomputable def c4_25_s:=@s_seq Try.prog 173 V4 c4_25 c4_26 c4_29 (by kernel_rfl)
noncomputable def c4_34_s:=@s_rend Try.prog 173 V4 c4_34 18 o4_18 (fun N M G k e w =>
    M (e 2) fun t69 =>
    N (xv (convert 5 2 t69)) w fun t70 w =>
    N (xv (xbin BinOp.add 2 (Operand.tmp 70) (Operand.const (Value.int IntKind.i64 1)) t70 (Value.int IntKind.i64 1))) w fun t71 w =>
    M t71 fun t20 =>
    k (Env.p e 20 t20) w) (by kernel_rfl) (by intros; kernel_rfl)
noncomputable def c4_33_s:=@s_cond Try.prog 173 V4 c4_33 .skip 68 c4_34 (by kernel_rfl) (by kernel_rfl)
noncomputable def c4_32_s:=@s_reg Try.prog 173 V4 c4_32 c4_33 17 o4_17 (fun N M G k e w =>
    M (e 20) fun t67 =>
    N (xv (xbin BinOp.eql 2 (Operand.tmp 67) (Operand.const (Value.int IntKind.i64 4611686018427387904)) t67 (Value.int IntKind.i64 4611686018427387904))) w fun t68 w =>
    k (Env.p e 68 t68) w) (by kernel_rfl) (by intros; kernel_rfl)
noncomputable def c4_24_s:=@s_seq Try.prog 173 V4 c4_24 c4_25 c4_32 (by kernel_rfl)
noncomputable def c4_23_s:=@s_reg Try.prog 173 V4 c4_23 c4_24 16 o4_16 (fun N M G k e w =>
    N (xv (Instr.fieldAt 34 (e 19) 3)) w fun t65 w =>
    N (xv (Instr.loadAt 2 t65)) w fun t66 w =>
    M t66 fun t20 =>
    k (Env.p e 20 t20) w) (by kernel_rfl) (by intros; kernel_rfl)
noncomputable def c4_22_s:=@s_reg Try.prog 173 V4 c4_22 c4_23 15 o4_15 (fun N M G k e w =>
    M (e 16) fun t60 =>
    M (e 18) fun t61 =>
    N (xv (Instr.indexAt 27 t60 t61)) w fun t62 w =>
    N (xv (Instr.fieldAt 36 t62 0)) w fun t63 w =>
    N (xv (Instr.loadAt 34 t63)) w fun t64 w =>
    N (xv (Instr.alloc 34 true (.tuple #[]))) w fun t19 w =>
    N (xu (Instr.storeAt 34 t19 t64)) w fun _ w =>
    k (Env.p e 19 t19) w) (by kernel_rfl) (by intros; kernel_rfl)
noncomputable def c4_21_s:=@s_block Try.prog 173 V4 c4_21 c4_22 3 (by kernel_rfl)
noncomputable def c4_19_s:=@s_seq Try.prog 173 V4 c4_19 c4_20 c4_21 (by kernel_rfl)
noncomputable def c4_36_s:=@s_cond Try.prog 173 V4 c4_36 (.exit 2) 57 .skip (by kernel_rfl) (by kernel_rfl)
noncomputable def c4_35_s:=@s_reg Try.prog 173 V4 c4_35 c4_36 13 o4_13 (fun N M G k e w =>
    M (e 18) fun t54 =>
    M (e 16) fun t55 =>
    N (builtin Builtin.len #[27] 3 ([false]).toArray ([t55]).toArray) w fun t56 w =>
    N (xv (xbin BinOp.lss 3 (Operand.tmp 54) (Operand.tmp 56) t54 t56)) w fun t57 w =>
    k (Env.p e 57 t57) w) (by kernel_rfl) (by intros; kernel_rfl)
noncomputable def c4_18_s:=@s_seq Try.prog 173 V4 c4_18 c4_19 c4_35 (by kernel_rfl)
noncomputable def c4_17_s:=@s_loop Try.prog 173 V4 c4_17 c4_18 (by kernel_rfl)
noncomputable def c4_16_s:=@s_block Try.prog 173 V4 c4_16 c4_17 2 (by kernel_rfl)
noncomputable def c4_15_s:=@s_reg Try.prog 173 V4 c4_15 c4_16 12 o4_12 (fun N M G k e w =>
    M (Value.int IntKind.i64 0) fun t18 =>
    k (Env.p e 18 t18) w) (by kernel_rfl) (by intros; kernel_rfl)
noncomputable def c4_8_s:=@s_seq Try.prog 173 V4 c4_8 c4_9 c4_15 (by kernel_rfl)
noncomputable def c4_7_s:=@s_reg Try.prog 173 V4 c4_7 c4_8 11 o4_11 (fun N M G k e w =>
    M (Value.int IntKind.i64 (-1)) fun t17 =>
    k (Env.p e 17 t17) w) (by kernel_rfl) (by intros; kernel_rfl)
noncomputable def c4_6_s:=@s_reg Try.prog 173 V4 c4_6 c4_7 10 o4_10 (fun N M G k e w =>
    M (e 11) fun t52 =>
    N (xcall (Value.func (Fn.func 14) #[] #[]) [t52]) w fun t53 w =>
    M t53 fun t16 =>
    k (Env.p e 16 t16) w) (by kernel_rfl) (by intros; kernel_rfl)
noncomputable def c4_5_s:=@s_reg Try.prog 173 V4 c4_5 c4_6 9 o4_9 (fun N M G k e w =>
    M (e 11) fun t44 =>
    M (e 1) fun t45 =>
    M (e 2) fun t46 =>
    N (xv (convert 5 2 t46)) w fun t47 w =>
    N (xv (Instr.loadAt 38 (e 12))) w fun t48 w =>
    N (xcall (Value.func (Fn.func 16) #[] #[]) [t44, t45, t47, t48]) w fun t49 w =>
    M t49 fun t43 =>
    N (xv (Instr.extract t43 0)) w fun t50 w =>
    N (xv (Instr.extract t43 1)) w fun t51 w =>
    N (xv (Instr.alloc 36 true (.tuple #[]))) w fun t14 w =>
    N (xu (Instr.storeAt 36 t14 t50)) w fun _ w =>
    M t51 fun t15 =>
    k (Env.p (Env.p e 14 t14) 15 t15) w) (by kernel_rfl) (by intros; kernel_rfl)
noncomputable def c4_42_s:=@s_rend Try.prog 173 V4 c4_42 7 o4_7 (fun N M G k e w =>
    M (e 13) fun t35 =>
    N (xv (xbin BinOp.add 3 (Operand.tmp 35) (Operand.const (Value.int IntKind.i64 1)) t35 (Value.int IntKind.i64 1))) w fun t36 w =>
    M t36 fun t13 =>
    k (Env.p e 13 t13) w) (by kernel_rfl) (by intros; kernel_rfl)
noncomputable def c4_44_s:=@s_rend Try.prog 173 V4 c4_44 8 o4_8 (fun N M G k e w =>
    M (e 11) fun t37 =>
    M (e 0) fun t38 =>
    M (e 13) fun t39 =>
    N (xv (Instr.indexAt 27 t38 t39)) w fun t40 w =>
    N (xv (Instr.loadAt 36 t40)) w fun t41 w =>
    N (xcall (Value.func (Fn.func 15) #[] #[]) [t37, t41]) w fun t42 w =>
    k e w) (by kernel_rfl) (by intros; kernel_rfl)
noncomputable def c4_43_s:=@s_block Try.prog 173 V4 c4_43 c4_44 1 (by kernel_rfl)
noncomputable def c4_41_s:=@s_seq Try.prog 173 V4 c4_41 c4_42 c4_43 (by kernel_rfl)
noncomputable def c4_46_s:=@s_cond Try.prog 173 V4 c4_46 (.exit 0) 34 .skip (by kernel_rfl) (by kernel_rfl)
noncomputable def c4_45_s:=@s_reg Try.prog 173 V4 c4_45 c4_46 6 o4_6 (fun N M G k e w =>
    M (e 13) fun t31 =>
    M (e 0) fun t32 =>
    N (builtin Builtin.len #[27] 3 ([false]).toArray ([t32]).toArray) w fun t33 w =>
    N (xv (xbin BinOp.lss 3 (Operand.tmp 31) (Operand.tmp 33) t31 t33)) w fun t34 w =>
    k (Env.p e 34 t34) w) (by kernel_rfl) (by intros; kernel_rfl)
noncomputable def c4_40_s:=@s_seq Try.prog 173 V4 c4_40 c4_41 c4_45 (by kernel_rfl)
noncomputable def c4_39_s:=@s_loop Try.prog 173 V4 c4_39 c4_40 (by kernel_rfl)
noncomputable def c4_38_s:=@s_block Try.prog 173 V4 c4_38 c4_39 0 (by kernel_rfl)
noncomputable def c4_37_s:=@s_reg Try.prog 173 V4 c4_37 c4_38 5 o4_5 (fun N M G k e w =>
    M (Value.int IntKind.i64 0) fun t13 =>
    k (Env.p e 13 t13) w) (by kernel_rfl) (by intros; kernel_rfl)
noncomputable def c4_4_s:=@s_seq Try.prog 173 V4 c4_4 c4_5 c4_37 (by kernel_rfl)
noncomputable def c4_3_s:=@s_reg Try.prog 173 V4 c4_3 c4_4 4 o4_4 (fun N M G k e w =>
    M (e 3) fun t26 =>
    N (xv (convert 5 2 t26)) w fun t27 w =>
    M (e 4) fun t28 =>
    N (xv (convert 5 2 t28)) w fun t29 w =>
    N (xv (Instr.build 38 ([(0, t27), (1, t29)]).toArray)) w fun t30 w =>
    N (xv (Instr.alloc 38 true (.tuple #[]))) w fun t12 w =>
    N (xu (Instr.storeAt 38 t12 t30)) w fun _ w =>
    k (Env.p e 12 t12) w) (by kernel_rfl) (by intros; kernel_rfl)
noncomputable def c4_2_s:=@s_reg Try.prog 173 V4 c4_2 c4_3 3 o4_3 (fun N M G k e w =>
    N (xcall (Value.func (Fn.func 8) #[] #[]) []) w fun t25 w =>
    M t25 fun t11 =>
    k (Env.p e 11 t11) w) (by kernel_rfl) (by intros; kernel_rfl)
noncomputable def c4_49_s:=@s_reg Try.prog 173 V4 c4_49 .ret 2 o4_2 (fun N M G k e w =>
    M (Value.bool false) fun t10 =>
    k (Env.p e 10 t10) w) (by kernel_rfl) (by intros; kernel_rfl)
noncomputable def c4_48_s:=@s_cond Try.prog 173 V4 c4_48 .skip 24 c4_49 (by kernel_rfl) (by kernel_rfl)
noncomputable def c4_47_s:=@s_reg Try.prog 173 V4 c4_47 c4_48 1 o4_1 (fun N M G k e w =>
    N (xcall (Value.func (Fn.func 7) #[] #[]) []) w fun t23 w =>
    N (xv (Op.unary UnOp.not t23)) w fun t24 w =>
    k (Env.p e 24 t24) w) (by kernel_rfl) (by intros; kernel_rfl)
noncomputable def c4_1_s:=@s_seq Try.prog 173 V4 c4_1 c4_2 c4_47 (by kernel_rfl)
noncomputable def c4_s:=@s_reg Try.prog 173 V4 c4 c4_1 0 o4_0 (fun N M G k e w =>
    M (Value.bool false) fun t10 =>
    k (Env.p e 10 t10) w) (by kernel_rfl) (by intros; kernel_rfl)
theorem call4 {a0 a1 a2 a3 a4 : Value} {w : World} {R : Value → World → Prop} (h : W3 Try.prog 173 V4 c4 (retQ Try.prog [.tmp 10] R) (argE [a0, a1, a2, a3, a4]) w) : CallsN Try.prog 4 [a0, a1, a2, a3, a4] w R :=
  callsN_of_W3 (c := c4) (rs := [.tmp 10]) V4 Try.ntmps4 (by rw [Try.results4]) mixed Try.func4 (by kernel_rfl) (by kernel_rfl) (by kernel_rfl) (by kernel_rfl) (by simp) h
noncomputable def w3t_4:=w3t Try.prog 173 V4
noncomputable def hk4 := And.intro @c4_11_s <| And.intro @c4_10_s <| And.intro @c4_14_s <| And.intro @c4_13_s <| And.intro @c4_12_s <| And.intro @c4_9_s <| And.intro @c4_20_s <| And.intro @c4_28_s <| And.intro @c4_27_s <| And.intro @c4_26_s <| And.intro @c4_31_s <| And.intro @c4_30_s <| And.intro @c4_29_s <| And.intro @c4_25_s <| And.intro @c4_34_s <| And.intro @c4_33_s <| And.intro @c4_32_s <| And.intro @c4_24_s <| And.intro @c4_23_s <| And.intro @c4_22_s <| And.intro @c4_21_s <| And.intro @c4_19_s <| And.intro @c4_36_s <| And.intro @c4_35_s <| And.intro @c4_18_s <| And.intro @c4_17_s <| And.intro @c4_16_s <| And.intro @c4_15_s <| And.intro @c4_8_s <| And.intro @c4_7_s <| And.intro @c4_6_s <| And.intro @c4_5_s <| And.intro @c4_42_s <| And.intro @c4_44_s <| And.intro @c4_43_s <| And.intro @c4_41_s <| And.intro @c4_46_s <| And.intro @c4_45_s <| And.intro @c4_40_s <| And.intro @c4_39_s <| And.intro @c4_38_s <| And.intro @c4_37_s <| And.intro @c4_4_s <| And.intro @c4_3_s <| And.intro @c4_2_s <| And.intro @c4_49_s <| And.intro @c4_48_s <| And.intro @c4_47_s <| And.intro @c4_1_s <| And.intro @c4_s <| @w3t_4
-- K4: ↓hk4
end
end Go.Proofs.Ytldmkhakjnglmaa
