/- The equations of the code of some functions, written by the printer gen3.py: each is checked by the kernel. -/
import Derived.Test.YtgloomahpjpiiaaQ0
import Derived.Test.YtgloomahpjpiiaaCI
set_option linter.unusedVariables false
set_option linter.unusedSimpArgs false
set_option maxRecDepth 100000
namespace Go.Proofs.Ytgloomahpjpiiaa
open Go.VW
noncomputable section
set_option linter.defProp false
variable {N : NT} {T : T3T} {M : MT} {G : GT} {H : HT} {Y : YT} {k : KT} {Q : Exit → Env → World → Prop} {e el eg : Env} {w u0 u1 u2 u3 u4 u5 u6 u7 u8 u9 : World}
/-! ### vouch/vouchlaw15.fixed -/
def V6 : Nat → Bool := fun i => [0, 1, 2, 3, 4, 8].elem i
noncomputable def c6:Code:=(Try.f6.body.getD .skip)
noncomputable def o6_0:Array Oper:=rO (cL c6)
noncomputable def c6_1:Code:=(cR c6)
noncomputable def o6_1:Array Oper:=rO (cL c6_1)
noncomputable def c6_2:Code:=(cR c6_1)
noncomputable def c6_3:Code:=(cR c6_2)
noncomputable def o6_4:Array Oper:=rO (cL c6_3)
noncomputable def c6_4:Code:=(cR c6_3)
noncomputable def o6_5:Array Oper:=rO (cL c6_4)
noncomputable def c6_5:Code:=(cR c6_4)
noncomputable def o6_6:Array Oper:=rO (cL c6_5)
noncomputable def c6_6:Code:=(cR c6_5)
noncomputable def o6_7:Array Oper:=rO (cL c6_6)
noncomputable def c6_7:Code:=(cL c6_2)
noncomputable def o6_2:Array Oper:=rO (cL c6_7)
noncomputable def c6_8:Code:=(cR c6_7)
noncomputable def c6_9:Code:=(cL c6_8)
noncomputable def o6_3:Array Oper:=rO (cL c6_9)
noncomputable def c6_6_s:=@s_reg Try.prog 71 V6 c6_6 .ret 7 o6_7 (fun N M G k e w =>
    M (e 2) fun t23 =>
    N (builtin Builtin.len #[22] 3 ([false]).toArray ([t23]).toArray) w fun t24 w =>
    N (xv (xbin BinOp.eql 3 (Operand.tmp 24) (Operand.const (Value.int IntKind.i64 3)) t24 (Value.int IntKind.i64 3))) w fun t25 w =>
    M t25 fun t26 =>
    G (isB t26 true) (fun K => M (e 2) fun v => K v w) (fun t27 w =>
    G (isB t26 true) (fun K => N (xv (Instr.indexAt 22 t27 (Value.int IntKind.i64 0))) w K) (fun t28 w =>
    G (isB t26 true) (fun K => N (xv (Instr.fieldAt 40 t28 11)) w K) (fun t29 w =>
    G (isB t26 true) (fun K => N (xv (Instr.loadAt 2 t29)) w K) (fun t30 w =>
    G (isB t26 true) (fun K => N (xv (xbin BinOp.eql 2 (Operand.tmp 30) (Operand.const (Value.int IntKind.i64 1)) t30 (Value.int IntKind.i64 1))) w K) (fun t31 w =>
    N (xpick t26 t31 (Value.bool false)) w fun t32 w =>
    M t32 fun t33 =>
    G (isB t33 true) (fun K => M (e 2) fun v => K v w) (fun t34 w =>
    G (isB t33 true) (fun K => N (xv (Instr.indexAt 22 t34 (Value.int IntKind.i64 2))) w K) (fun t35 w =>
    G (isB t33 true) (fun K => N (xv (Instr.fieldAt 40 t35 1)) w K) (fun t36 w =>
    G (isB t33 true) (fun K => N (xv (Instr.loadAt 3 t36)) w K) (fun t37 w =>
    G (isB t33 true) (fun K => N (xv (xbin BinOp.eql 3 (Operand.tmp 37) (Operand.const (Value.int IntKind.i64 1)) t37 (Value.int IntKind.i64 1))) w K) (fun t38 w =>
    N (xpick t33 t38 (Value.bool false)) w fun t39 w =>
    M t39 fun t40 =>
    G (isB t40 true) (fun K => M (e 3) fun v => K v w) (fun t41 w =>
    G (isB t40 true) (fun K => N (builtin Builtin.len #[22] 3 ([false]).toArray ([t41]).toArray) w K) (fun t42 w =>
    G (isB t40 true) (fun K => N (xv (xbin BinOp.eql 3 (Operand.tmp 42) (Operand.const (Value.int IntKind.i64 1)) t42 (Value.int IntKind.i64 1))) w K) (fun t43 w =>
    N (xpick t40 t43 (Value.bool false)) w fun t44 w =>
    M t44 fun t45 =>
    G (isB t45 true) (fun K => M (e 4) fun v => K v w) (fun t46 w =>
    G (isB t45 true) (fun K => N (builtin Builtin.len #[22] 3 ([false]).toArray ([t46]).toArray) w K) (fun t47 w =>
    G (isB t45 true) (fun K => N (xv (xbin BinOp.eql 3 (Operand.tmp 47) (Operand.const (Value.int IntKind.i64 2)) t47 (Value.int IntKind.i64 2))) w K) (fun t48 w =>
    N (xpick t45 t48 (Value.bool false)) w fun t49 w =>
    M t49 fun t50 =>
    G (isB t50 true) (fun K => M (e 4) fun v => K v w) (fun t51 w =>
    G (isB t50 true) (fun K => N (xv (Instr.indexAt 22 t51 (Value.int IntKind.i64 0))) w K) (fun t52 w =>
    G (isB t50 true) (fun K => N (xv (Instr.fieldAt 40 t52 7)) w K) (fun t53 w =>
    G (isB t50 true) (fun K => N (xv (Instr.loadAt 33 t53)) w K) (fun t54 w =>
    G (isB t50 true) (fun K => N (xv (Instr.build 33 ([(0, (Value.int IntKind.i64 1)), (1, (Value.int IntKind.i64 2))]).toArray)) w K) (fun t55 w =>
    G (isB t50 true) (fun K => N (xv (xbin BinOp.eql 33 (Operand.tmp 54) (Operand.tmp 55) t54 t55)) w K) (fun t56 w =>
    N (xpick t50 t56 (Value.bool false)) w fun t57 w =>
    M t57 fun t58 =>
    G (isB t58 true) (fun K => M (e 4) fun v => K v w) (fun t59 w =>
    G (isB t58 true) (fun K => N (xv (Instr.indexAt 22 t59 (Value.int IntKind.i64 1))) w K) (fun t60 w =>
    G (isB t58 true) (fun K => N (xv (Instr.fieldAt 40 t60 7)) w K) (fun t61 w =>
    G (isB t58 true) (fun K => N (xv (Instr.fieldAt 33 t61 1)) w K) (fun t62 w =>
    G (isB t58 true) (fun K => N (xv (Instr.loadAt 2 t62)) w K) (fun t63 w =>
    G (isB t58 true) (fun K => N (xv (xbin BinOp.eql 2 (Operand.tmp 63) (Operand.const (Value.int IntKind.i64 4611686018427387904)) t63 (Value.int IntKind.i64 4611686018427387904))) w K) (fun t64 w =>
    N (xpick t58 t64 (Value.bool false)) w fun t65 w =>
    M t65 fun t66 =>
    G (isB t66 true) (fun K => M (e 1) fun v => K v w) (fun t67 w =>
    G (isB t66 true) (fun K => N (xcall (Value.func (Fn.func 11) #[] #[]) [t67]) w K) (fun t68 w =>
    G (isB t66 true) (fun K => N (xv (xbin BinOp.eql 2 (Operand.tmp 68) (Operand.const (Value.int IntKind.i64 1)) t68 (Value.int IntKind.i64 1))) w K) (fun t69 w =>
    N (xpick t66 t69 (Value.bool false)) w fun t70 w =>
    M t70 fun t0 =>
    k (Env.p e 0 t0) w) w) w) w) w) w) w) w) w) w) w) w) w) w) w) w) w) w) w) w) w) w) w) w) w) w) w) w) w) w) w) w) (by kernel_rfl) (by intros; kernel_rfl)
noncomputable def c6_5_s:=@s_reg Try.prog 71 V6 c6_5 c6_6 6 o6_6 (fun N M G k e w =>
    M (e 1) fun t19 =>
    N (xv (Instr.build 33 ([(1, (Value.int IntKind.i64 4611686018427387904))]).toArray)) w fun t20 w =>
    N (xv (Instr.build 40 ([(0, (Value.int IntKind.i64 5)), (4, (Value.int IntKind.i64 3)), (5, (Value.int IntKind.i64 1)), (6, (Value.string ⟨#[97]⟩)), (7, t20)]).toArray)) w fun t21 w =>
    N (xcall (Value.func (Fn.func 9) #[] #[]) [t19, t21]) w fun t22 w =>
    M t22 fun t4 =>
    k (Env.p e 4 t4) w) (by kernel_rfl) (by intros; kernel_rfl)
noncomputable def c6_4_s:=@s_reg Try.prog 71 V6 c6_4 c6_5 5 o6_5 (fun N M G k e w =>
    M (e 1) fun t14 =>
    N (xcall (Value.func (Fn.func 16) #[] #[]) [(Value.string ⟨#[97]⟩), (Value.string ⟨#[120]⟩)]) w fun t15 w =>
    N (xv (Instr.buildSlice 37 1 ([(0, t15)]).toArray)) w fun t16 w =>
    N (xcall (Value.func (Fn.func 8) #[] #[]) [(Value.int IntKind.i64 0), (Value.int IntKind.i64 1), t16]) w fun t17 w =>
    N (xcall (Value.func (Fn.func 9) #[] #[]) [t14, t17]) w fun t18 w =>
    M t18 fun t3 =>
    k (Env.p e 3 t3) w) (by kernel_rfl) (by intros; kernel_rfl)
noncomputable def c6_3_s:=@s_reg Try.prog 71 V6 c6_3 c6_4 4 o6_4 (fun N M G k e w =>
    M (e 1) fun t9 =>
    N (xcall (Value.func (Fn.func 16) #[] #[]) [(Value.string ⟨#[97]⟩), (Value.string ⟨#[120]⟩)]) w fun t10 w =>
    N (xv (Instr.buildSlice 37 1 ([(0, t10)]).toArray)) w fun t11 w =>
    N (xcall (Value.func (Fn.func 8) #[] #[]) [(Value.int IntKind.i64 0), (Value.int IntKind.i64 1), t11]) w fun t12 w =>
    N (xcall (Value.func (Fn.func 9) #[] #[]) [t9, t12]) w fun t13 w =>
    M t13 fun t2 =>
    k (Env.p e 2 t2) w) (by kernel_rfl) (by intros; kernel_rfl)
noncomputable def c6_9_s:=@s_reg Try.prog 71 V6 c6_9 .ret 3 o6_3 (fun N M G k e w =>
    M (Value.bool false) fun t0 =>
    k (Env.p e 0 t0) w) (by kernel_rfl) (by intros; kernel_rfl)
noncomputable def c6_8_s:=@s_cond Try.prog 71 V6 c6_8 .skip 8 c6_9 (by kernel_rfl) (by kernel_rfl)
noncomputable def c6_7_s:=@s_reg Try.prog 71 V6 c6_7 c6_8 2 o6_2 (fun N M G k e w =>
    M (e 1) fun t7 =>
    N (xv (xbin BinOp.eql 25 (Operand.tmp 7) (Operand.const (Value.pointer none)) t7 (Value.pointer none))) w fun t8 w =>
    k (Env.p e 8 t8) w) (by kernel_rfl) (by intros; kernel_rfl)
noncomputable def c6_2_s:=@s_seq Try.prog 71 V6 c6_2 c6_3 c6_7 (by kernel_rfl)
noncomputable def c6_1_s:=@s_reg Try.prog 71 V6 c6_1 c6_2 1 o6_1 (fun N M G k e w =>
    N (xv (Instr.build 28 ([(0, (Value.int IntKind.i64 2)), (5, (Value.int IntKind.i64 2))]).toArray)) w fun t5 w =>
    N (xcall (Value.func (Fn.func 7) #[] #[]) [t5]) w fun t6 w =>
    M t6 fun t1 =>
    k (Env.p e 1 t1) w) (by kernel_rfl) (by intros; kernel_rfl)
noncomputable def c6_s:=@s_reg Try.prog 71 V6 c6 c6_1 0 o6_0 (fun N M G k e w =>
    M (Value.bool false) fun t0 =>
    k (Env.p e 0 t0) w) (by kernel_rfl) (by intros; kernel_rfl)
theorem call6 {w : World} {R : Value → World → Prop} (h : W3 Try.prog 71 V6 c6 (retQ Try.prog [.tmp 0] R) (argE []) w) : CallsN Try.prog 6 [] w R :=
  callsN_of_W3 (c := c6) (rs := [.tmp 0]) V6 Try.ntmps6 (by rw [Try.results6]) mixed Try.func6 (by kernel_rfl) (by kernel_rfl) (by kernel_rfl) (by kernel_rfl) (by simp) h
noncomputable def w3t_6:=w3t Try.prog 71 V6
noncomputable def hk6 := And.intro @c6_6_s <| And.intro @c6_5_s <| And.intro @c6_4_s <| And.intro @c6_3_s <| And.intro @c6_9_s <| And.intro @c6_8_s <| And.intro @c6_7_s <| And.intro @c6_2_s <| And.intro @c6_1_s <| And.intro @c6_s <| @w3t_6
-- K6: ↓hk6
/-! ### vouch/vouchlaw15.commit -/
def V8 : Nat → Bool := fun i => [0, 1, 2, 6].elem i
noncomputable def c8:Code:=(Try.f8.body.getD .skip)
noncomputable def o8_0:Array Oper:=rO (cL c8)
noncomputable def c8_1:Code:=(cR c8)
noncomputable def o8_1:Array Oper:=rO (cL c8_1)
noncomputable def c8_1_s:=@s_reg Try.prog 11 V8 c8_1 .ret 1 o8_1 (fun N M G k e w =>
    M (e 0) fun t7 =>
    M (e 1) fun t8 =>
    M (e 2) fun t9 =>
    N (xv (Instr.build 40 ([(0, (Value.int IntKind.i64 1)), (3, t7), (5, t8), (12, t9)]).toArray)) w fun t10 w =>
    N (xu (Instr.storeAt 40 (e 6) t10)) w fun _ w =>
    k e w) (by kernel_rfl) (by intros; kernel_rfl)
noncomputable def c8_s:=@s_reg Try.prog 11 V8 c8 c8_1 0 o8_0 (fun N M G k e w =>
    N (xv (Instr.alloc 40 true (.tuple #[]))) w fun t6 w =>
    k (Env.p e 6 t6) w) (by kernel_rfl) (by intros; kernel_rfl)
theorem call8 {a0 a1 a2 : Value} {w : World} {R : Value → World → Prop} (h : W3 Try.prog 11 V8 c8 (retQ Try.prog [.cell 6 40] R) (argE [a0, a1, a2]) w) : CallsN Try.prog 8 [a0, a1, a2] w R :=
  callsN_of_W3 (c := c8) (rs := [.cell 6 40]) V8 Try.ntmps8 (by rw [Try.results8]) mixed Try.func8 (by kernel_rfl) (by kernel_rfl) (by kernel_rfl) (by kernel_rfl) (by simp) h
noncomputable def w3t_8:=w3t Try.prog 11 V8
noncomputable def hk8 := And.intro @c8_1_s <| And.intro @c8_s <| @w3t_8
-- K8: ↓hk8
/-! ### vouch/vouchlaw15.put -/
def V16 : Nat → Bool := fun i => [0, 1, 4].elem i
noncomputable def c16:Code:=(Try.f16.body.getD .skip)
noncomputable def o16_0:Array Oper:=rO (cL c16)
noncomputable def c16_1:Code:=(cR c16)
noncomputable def o16_1:Array Oper:=rO (cL c16_1)
noncomputable def c16_1_s:=@s_reg Try.prog 9 V16 c16_1 .ret 1 o16_1 (fun N M G k e w =>
    M (e 0) fun t5 =>
    M (e 1) fun t6 =>
    N (xv (Instr.build 35 ([(0, (Value.bool true)), (1, t6)]).toArray)) w fun t7 w =>
    N (xv (Instr.build 57 ([(0, t5), (1, t7)]).toArray)) w fun t8 w =>
    N (xu (Instr.storeAt 57 (e 4) t8)) w fun _ w =>
    k e w) (by kernel_rfl) (by intros; kernel_rfl)
noncomputable def c16_s:=@s_reg Try.prog 9 V16 c16 c16_1 0 o16_0 (fun N M G k e w =>
    N (xv (Instr.alloc 57 true (.tuple #[]))) w fun t4 w =>
    k (Env.p e 4 t4) w) (by kernel_rfl) (by intros; kernel_rfl)
theorem call16 {a0 a1 : Value} {w : World} {R : Value → World → Prop} (h : W3 Try.prog 9 V16 c16 (retQ Try.prog [.cell 4 57] R) (argE [a0, a1]) w) : CallsN Try.prog 16 [a0, a1] w R :=
  callsN_of_W3 (c := c16) (rs := [.cell 4 57]) V16 Try.ntmps16 (by rw [Try.results16]) mixed Try.func16 (by kernel_rfl) (by kernel_rfl) (by kernel_rfl) (by kernel_rfl) (by simp) h
noncomputable def w3t_16:=w3t Try.prog 9 V16
noncomputable def hk16 := And.intro @c16_1_s <| And.intro @c16_s <| @w3t_16
-- K16: ↓hk16
/-! ### vouch/vouchlaw15.OriginNone -/
def V5 : Nat → Bool := fun i => [0, 1, 2, 3, 4, 8, 9, 10, 11, 13].elem i
noncomputable def c5:Code:=(Try.f5.body.getD .skip)
noncomputable def o5_0:Array Oper:=rO (cL c5)
noncomputable def c5_1:Code:=(cR c5)
noncomputable def c5_2:Code:=(cR c5_1)
noncomputable def o5_3:Array Oper:=rO (cL c5_2)
noncomputable def c5_3:Code:=(cR c5_2)
noncomputable def o5_4:Array Oper:=rO (cL c5_3)
noncomputable def c5_4:Code:=(cR c5_3)
noncomputable def o5_5:Array Oper:=rO (cL c5_4)
noncomputable def c5_5:Code:=(cL c5_1)
noncomputable def o5_1:Array Oper:=rO (cL c5_5)
noncomputable def c5_6:Code:=(cR c5_5)
noncomputable def c5_7:Code:=(cL c5_6)
noncomputable def o5_2:Array Oper:=rO (cL c5_7)
noncomputable def c5_4_s:=@s_reg Try.prog 59 V5 c5_4 .ret 5 o5_5 (fun N M G k e w =>
    M (e 9) fun t21 =>
    N (xv (Instr.loadAt 40 (e 4))) w fun t22 w =>
    N (xcall (Value.func (Fn.func 9) #[] #[]) [t21, t22]) w fun t23 w =>
    N (builtin Builtin.len #[22] 3 ([false]).toArray ([t23]).toArray) w fun t24 w =>
    N (xv (xbin BinOp.eql 3 (Operand.tmp 24) (Operand.const (Value.int IntKind.i64 0)) t24 (Value.int IntKind.i64 0))) w fun t25 w =>
    M t25 fun t26 =>
    G (isB t26 true) (fun K => M (e 9) fun v => K v w) (fun t27 w =>
    G (isB t26 true) (fun K => N (xcall (Value.func (Fn.func 11) #[] #[]) [t27]) w K) (fun t28 w =>
    G (isB t26 true) (fun K => N (xv (xbin BinOp.eql 2 (Operand.tmp 28) (Operand.const (Value.int IntKind.i64 0)) t28 (Value.int IntKind.i64 0))) w K) (fun t29 w =>
    N (xpick t26 t29 (Value.bool false)) w fun t30 w =>
    M t30 fun t31 =>
    G (isB t31 true) (fun K => M (e 9) fun v => K v w) (fun t32 w =>
    G (isB t31 true) (fun K => M (e 1) fun v => K v w) (fun t33 w =>
    G (isB t31 true) (fun K => N (xcall (Value.func (Fn.func 13) #[] #[]) [t32, t33]) w K) (fun t34 w =>
    G (isB t31 true) (fun K => N (xv (xbin BinOp.eql 2 (Operand.tmp 34) (Operand.const (Value.int IntKind.i64 0)) t34 (Value.int IntKind.i64 0))) w K) (fun t35 w =>
    N (xpick t31 t35 (Value.bool false)) w fun t36 w =>
    M t36 fun t37 =>
    G (isB t37 true) (fun K => N (xv (Instr.loadAt 50 (e 10))) w K) (fun t38 w =>
    G (isB t37 true) (fun K => N (xv (Instr.build 50 ([]).toArray)) w K) (fun t39 w =>
    G (isB t37 true) (fun K => N (xv (xbin BinOp.eql 50 (Operand.tmp 38) (Operand.tmp 39) t38 t39)) w K) (fun t40 w =>
    N (xpick t37 t40 (Value.bool false)) w fun t41 w =>
    M t41 fun t42 =>
    G (isB t42 true) (fun K => M (e 11) fun v => K v w) (fun t43 w =>
    G (isB t42 true) (fun K => N (xv (xbin BinOp.eql 3 (Operand.tmp 43) (Operand.const (Value.int IntKind.i64 3)) t43 (Value.int IntKind.i64 3))) w K) (fun t44 w =>
    N (xpick t42 t44 (Value.bool false)) w fun t45 w =>
    M t45 fun t46 =>
    G (isB t46 true) (fun K => M (e 9) fun v => K v w) (fun t47 w =>
    G (isB t46 true) (fun K => M (e 2) fun v => K v w) (fun t48 w =>
    G (isB t46 true) (fun K => M (e 3) fun v => K v w) (fun t49 w =>
    G (isB t46 true) (fun K => N (xcall (Value.func (Fn.func 12) #[] #[]) [t47, t48, t49]) w K) (fun t50 w =>
    G (isB t46 true) (fun K => N (builtin Builtin.len #[45] 3 ([false]).toArray ([t50]).toArray) w K) (fun t51 w =>
    G (isB t46 true) (fun K => N (xv (xbin BinOp.eql 3 (Operand.tmp 51) (Operand.const (Value.int IntKind.i64 0)) t51 (Value.int IntKind.i64 0))) w K) (fun t52 w =>
    N (xpick t46 t52 (Value.bool false)) w fun t53 w =>
    M t53 fun t54 =>
    G (isB t54 true) (fun K => M (e 9) fun v => K v w) (fun t55 w =>
    G (isB t54 true) (fun K => N (xcall (Value.func (Fn.func 15) #[] #[]) [t55]) w K) (fun t56 w =>
    G (isB t54 true) (fun K => N (xv (xbin BinOp.eql 25 (Operand.tmp 56) (Operand.const (Value.pointer none)) t56 (Value.pointer none))) w K) (fun t57 w =>
    N (xpick t54 t57 (Value.bool false)) w fun t58 w =>
    M t58 fun t8 =>
    k (Env.p e 8 t8) w) w) w) w) w) w) w) w) w) w) w) w) w) w) w) w) w) w) w) w) w) w) (by kernel_rfl) (by intros; kernel_rfl)
noncomputable def c5_3_s:=@s_reg Try.prog 59 V5 c5_3 c5_4 4 o5_4 (fun N M G k e w =>
    M (e 9) fun t15 =>
    M (e 1) fun t16 =>
    M (e 2) fun t17 =>
    N (xcall (Value.func (Fn.func 14) #[] #[]) [t15, t16, t17]) w fun t18 w =>
    M t18 fun t14 =>
    N (xv (Instr.extract t14 0)) w fun t19 w =>
    N (xv (Instr.extract t14 1)) w fun t20 w =>
    N (xv (Instr.alloc 50 true (.tuple #[]))) w fun t10 w =>
    N (xu (Instr.storeAt 50 t10 t19)) w fun _ w =>
    M t20 fun t11 =>
    k (Env.p (Env.p e 10 t10) 11 t11) w) (by kernel_rfl) (by intros; kernel_rfl)
noncomputable def c5_2_s:=@s_reg Try.prog 59 V5 c5_2 c5_3 3 o5_3 (fun N M G k e w =>
    M (Value.pointer none) fun t9 =>
    k (Env.p e 9 t9) w) (by kernel_rfl) (by intros; kernel_rfl)
noncomputable def c5_7_s:=@s_reg Try.prog 59 V5 c5_7 .ret 2 o5_2 (fun N M G k e w =>
    M (Value.bool false) fun t8 =>
    k (Env.p e 8 t8) w) (by kernel_rfl) (by intros; kernel_rfl)
noncomputable def c5_6_s:=@s_cond Try.prog 59 V5 c5_6 .skip 13 c5_7 (by kernel_rfl) (by kernel_rfl)
noncomputable def c5_5_s:=@s_reg Try.prog 59 V5 c5_5 c5_6 1 o5_1 (fun N M G k e w =>
    N (xcall (Value.func (Fn.func 6) #[] #[]) []) w fun t12 w =>
    N (xv (Op.unary UnOp.not t12)) w fun t13 w =>
    k (Env.p e 13 t13) w) (by kernel_rfl) (by intros; kernel_rfl)
noncomputable def c5_1_s:=@s_seq Try.prog 59 V5 c5_1 c5_2 c5_5 (by kernel_rfl)
noncomputable def c5_s:=@s_reg Try.prog 59 V5 c5 c5_1 0 o5_0 (fun N M G k e w =>
    N (xv (Instr.box 40 (e 0))) w fun t4 w =>
    M (Value.bool false) fun t8 =>
    k (Env.p (Env.p e 4 t4) 8 t8) w) (by kernel_rfl) (by intros; kernel_rfl)
theorem call5 {a0 a1 a2 a3 : Value} {w : World} {R : Value → World → Prop} (h : W3 Try.prog 59 V5 c5 (retQ Try.prog [.tmp 8] R) (argE [a0, a1, a2, a3]) w) : CallsN Try.prog 5 [a0, a1, a2, a3] w R :=
  callsN_of_W3 (c := c5) (rs := [.tmp 8]) V5 Try.ntmps5 (by rw [Try.results5]) mixed Try.func5 (by kernel_rfl) (by kernel_rfl) (by kernel_rfl) (by kernel_rfl) (by simp) h
noncomputable def w3t_5:=w3t Try.prog 59 V5
noncomputable def hk5 := And.intro @c5_4_s <| And.intro @c5_3_s <| And.intro @c5_2_s <| And.intro @c5_7_s <| And.intro @c5_6_s <| And.intro @c5_5_s <| And.intro @c5_1_s <| And.intro @c5_s <| @w3t_5
-- K5: ↓hk5
/-! ### vouch/vouchlaw15.OriginOnce -/
def V3 : Nat → Bool := fun i => [0, 1, 4, 5, 6, 7, 8, 9, 10, 11, 12, 13, 15, 24, 38, 61, 82, 135, 147, 160].elem i
noncomputable def c3:Code:=(Try.f3.body.getD .skip)
noncomputable def o3_0:Array Oper:=rO (cL c3)
noncomputable def c3_1:Code:=(cR c3)
noncomputable def c3_2:Code:=(cR c3_1)
noncomputable def o3_3:Array Oper:=rO (cL c3_2)
noncomputable def c3_3:Code:=(cR c3_2)
noncomputable def c3_4:Code:=(cR c3_3)
noncomputable def o3_6:Array Oper:=rO (cL c3_4)
noncomputable def c3_5:Code:=(cR c3_4)
noncomputable def o3_7:Array Oper:=rO (cL c3_5)
noncomputable def c3_6:Code:=(cR c3_5)
noncomputable def o3_8:Array Oper:=rO (cL c3_6)
noncomputable def c3_7:Code:=(cR c3_6)
noncomputable def o3_9:Array Oper:=rO (cL c3_7)
noncomputable def c3_8:Code:=(cR c3_7)
noncomputable def c3_9:Code:=(cR c3_8)
noncomputable def o3_28:Array Oper:=rO (cL c3_9)
noncomputable def c3_10:Code:=(cL c3_8)
noncomputable def o3_10:Array Oper:=rO (cL c3_10)
noncomputable def c3_11:Code:=(cR c3_10)
noncomputable def c3_12:Code:=(cL c3_11)
noncomputable def c3_13:Code:=(cL c3_12)
noncomputable def c3_14:Code:=(cR c3_13)
noncomputable def c3_15:Code:=(cR c3_14)
noncomputable def o3_12:Array Oper:=rO c3_15
noncomputable def c3_16:Code:=(cL c3_14)
noncomputable def c3_17:Code:=(cL c3_16)
noncomputable def o3_13:Array Oper:=rO (cL c3_17)
noncomputable def c3_18:Code:=(cR c3_17)
noncomputable def o3_14:Array Oper:=rO (cL c3_18)
noncomputable def c3_19:Code:=(cR c3_18)
noncomputable def o3_15:Array Oper:=rO (cL c3_19)
noncomputable def c3_20:Code:=(cR c3_19)
noncomputable def c3_21:Code:=(cR c3_20)
noncomputable def c3_22:Code:=(cR c3_21)
noncomputable def c3_23:Code:=(cR c3_22)
noncomputable def o3_25:Array Oper:=rO (cL c3_23)
noncomputable def c3_24:Code:=(cR c3_23)
noncomputable def o3_26:Array Oper:=rO (cL c3_24)
noncomputable def c3_25:Code:=(cR c3_24)
noncomputable def o3_27:Array Oper:=rO c3_25
noncomputable def c3_26:Code:=(cL c3_22)
noncomputable def o3_21:Array Oper:=rO (cL c3_26)
noncomputable def c3_27:Code:=(cR c3_26)
noncomputable def c3_28:Code:=(cL c3_27)
noncomputable def o3_22:Array Oper:=rO (cL c3_28)
noncomputable def c3_29:Code:=(cR c3_28)
noncomputable def o3_23:Array Oper:=rO (cL c3_29)
noncomputable def c3_30:Code:=(cR c3_29)
noncomputable def c3_31:Code:=(cL c3_30)
noncomputable def o3_24:Array Oper:=rO (cL c3_31)
noncomputable def c3_32:Code:=(cL c3_21)
noncomputable def o3_19:Array Oper:=rO (cL c3_32)
noncomputable def b3_19:List Row:=[(0, 0, 8192, 84, true), (1, 1, 9671406556917033397649408, 85, true), (2, 3, 19342813113834066795298816, 86, true), (4, 7, 38685626227668133590597632, 87, true), (8, 15, 77371252455336267181195264, 88, true), (16, 31, 154742504910672534362390528, 89, true), (32, 63, 309485009821345068724789248, 90, true), (96, 127, 928455029464035206174343168, 91, true), (160, 255, 1547425049106725343623905280, 92, true), (288, 511, 2785365088392105618523029504, 93, true), (32, 63, 309485009821345068724783104, 94, true), (1568, 2047, 15164765481245908367514271744, 95, true), (2080, 4095, 20116525638387429467110768640, 96, true), (4128, 8191, 39614081257132168796771975168, 97, true), (8192, 16383, 79228162514264337593543958528, 98, true), (24576, 32767, 237684487542793012780631851008, 99, true), (40960, 65535, 396140812571321687967719751680, 100, true), (73728, 131071, 713053462628379038341895553024, 101, true), (139264, 262143, 1346878762742493739090247155712, 102, true), (270336, 524287, 2614529362970723140586950361088, 103, true), (532480, 1048575, 5070602400912917605986812821504, 104, true), (1048576, 2097151, 10141204801825835211973625643072, 105, true), (1048576, 2097151, 10141204801825835211973625645056, 106, true), (7340032, 8388607, 70988433612780846483815379501056, 107, true), (9437184, 16777215, 91270843216432516907762630787072, 108, true), (17825792, 33554431, 172400481631039198603551635931136, 109, true), (33554432, 67108863, 324518553658426726783156020584448, 110, true), (100663296, 134217727, 973555660975280180349468061728768, 111, true), (167772160, 268435455, 1622592768292133633915780102881280, 112, true), (301989888, 536870911, 2920666982925840541048404185186304, 113, true), (33554432, 67108863, 324518553658426726783156020576384, 114, true), (33554432, 67108863, 324518553658426726783156020578304, 115, true), (3254779904, 3288334335, 31478299704867392497966133995896832, 116, true), (4328521728, 7583301631, 41862893421937047755027126654337024, 117, true), (9160359936, 17179869183, 88593565148750496411801593617317888, 118, true), (17213423616, 34359738367, 166478018026772910839759038555619328, 119, true), (34359738368, 68719476735, 332306998946228968225951765070094336, 120, true), (103079215104, 137438953471, 996920996838686904677855295210258432, 121, true), (171798691840, 274877906943, 1661534994731144841129758825350430720, 122, true), (309237645312, 549755813887, 2990762990516060714033565885630775296, 123, true), (34359738368, 68719476735, 332306998946228968225951765070086400, 124, true), (34359738368, 68719476735, 332306998946228968225951765070088192, 125, true), (3332894621696, 3367254360063, 32233778897784209917917321211798355968, 126, true), (4432406249472, 7765300871167, 42867602864063536901147777694041112576, 127, true), (9380208574464, 17592186044415, 90719810712320508325684831864133517312, 128, true), (17626579337216, 35184372088831, 170473814977969119126640038636974768128, 129, true), (35218765381632, 70368744177663, 340282691439492121890101390587788787712, 130, true), (70368744177664, 140737488355327, 680564733841876926926749214863536431104, 131, true), (211106232532992, 281474976710655, 2041694201525630780780247644590609268736, 132, true), (351843720888320, 562949953421311, 3402823669209384634633746074317682114560, 133, true), (633318731153408, 1125899906842623, 6125082929095446000767469716927848382464, 134, true), (1125899941445632, 2251799813685247, 10889036076129789291080549432946228985856, 135, true), (2251799814733824, 4503599627370495, 21778071493081266463481810087606791176192, 136, true)]
noncomputable def c3_33:Code:=(cR c3_32)
noncomputable def c3_34:Code:=(cL c3_33)
noncomputable def o3_20:Array Oper:=rO (cL c3_34)
noncomputable def c3_35:Code:=(cL c3_20)
noncomputable def o3_16:Array Oper:=rO (cL c3_35)
noncomputable def c3_36:Code:=(cR c3_35)
noncomputable def c3_37:Code:=(cL c3_36)
noncomputable def c3_38:Code:=(cL c3_37)
noncomputable def o3_17:Array Oper:=rO (cL c3_38)
noncomputable def c3_39:Code:=(cR c3_38)
noncomputable def c3_40:Code:=(cL c3_39)
noncomputable def o3_18:Array Oper:=rO (cL c3_40)
noncomputable def c3_41:Code:=(cL c3_13)
noncomputable def o3_11:Array Oper:=rO (cL c3_41)
noncomputable def c3_42:Code:=(cR c3_41)
noncomputable def c3_43:Code:=(cL c3_3)
noncomputable def o3_4:Array Oper:=rO (cL c3_43)
noncomputable def c3_44:Code:=(cR c3_43)
noncomputable def c3_45:Code:=(cL c3_44)
noncomputable def o3_5:Array Oper:=rO (cL c3_45)
noncomputable def c3_46:Code:=(cL c3_1)
noncomputable def o3_1:Array Oper:=rO (cL c3_46)
noncomputable def c3_47:Code:=(cR c3_46)
noncomputable def c3_48:Code:=(cL c3_47)
noncomputable def o3_2:Array Oper:=rO (cL c3_48)
noncomputable def c3_9_s:=@s_reg Try.prog 189 V3 c3_9 .ret 28 o3_28 (fun N M G k e w =>
    M (e 5) fun t178 =>
    N (xcall (Value.func (Fn.func 11) #[] #[]) [t178]) w fun t179 w =>
    M (e 9) fun t180 =>
    N (xv (xbin BinOp.eql 2 (Operand.tmp 179) (Operand.tmp 180) t179 t180)) w fun t181 w =>
    M t181 fun t182 =>
    G (isB t182 true) (fun K => M (e 5) fun v => K v w) (fun t183 w =>
    G (isB t182 true) (fun K => N (xcall (Value.func (Fn.func 12) #[] #[]) [t183, (Value.int IntKind.i64 1), (Value.int IntKind.i64 1048576)]) w K) (fun t184 w =>
    G (isB t182 true) (fun K => N (builtin Builtin.len #[45] 3 ([false]).toArray ([t184]).toArray) w K) (fun t185 w =>
    G (isB t182 true) (fun K => M (e 9) fun v => K v w) (fun t186 w =>
    G (isB t182 true) (fun K => N (xv (xbin BinOp.eql 3 (Operand.tmp 185) (Operand.tmp 186) t185 t186)) w K) (fun t187 w =>
    N (xpick t182 t187 (Value.bool false)) w fun t188 w =>
    M t188 fun t4 =>
    k (Env.p e 4 t4) w) w) w) w) w) w) (by kernel_rfl) (by intros; kernel_rfl)
noncomputable def c3_15_s:=@s_rend Try.prog 189 V3 c3_15 12 o3_12 (fun N M G k e w =>
    M (e 10) fun t39 =>
    N (xv (xbin BinOp.add 3 (Operand.tmp 39) (Operand.const (Value.int IntKind.i64 1)) t39 (Value.int IntKind.i64 1))) w fun t40 w =>
    M t40 fun t10 =>
    k (Env.p e 10 t10) w) (by kernel_rfl) (by intros; kernel_rfl)
noncomputable def c3_25_s:=@s_rend Try.prog 189 V3 c3_25 27 o3_27 (fun N M G k e w =>
    M (e 8) fun t171 =>
    M (e 11) fun t172 =>
    M (e 13) fun t173 =>
    N (xv (Instr.indexAt 22 t173 (Value.int IntKind.i64 0))) w fun t174 w =>
    N (xv (Instr.fieldAt 40 t174 10)) w fun t175 w =>
    N (xv (Instr.loadAt 36 t175)) w fun t176 w =>
    N (xv (Instr.indexAt 31 t171 t172)) w fun t177 w =>
    N (xu (Instr.storeAt 36 t177 t176)) w fun _ w =>
    k e w) (by kernel_rfl) (by intros; kernel_rfl)
noncomputable def c3_24_s:=@s_reg Try.prog 189 V3 c3_24 c3_25 26 o3_26 (fun N M G k e w =>
    M (e 7) fun t164 =>
    M (e 11) fun t165 =>
    M (e 13) fun t166 =>
    N (xv (Instr.indexAt 22 t166 (Value.int IntKind.i64 0))) w fun t167 w =>
    N (xv (Instr.fieldAt 40 t167 11)) w fun t168 w =>
    N (xv (Instr.loadAt 2 t168)) w fun t169 w =>
    N (xv (Instr.indexAt 30 t164 t165)) w fun t170 w =>
    N (xu (Instr.storeAt 2 t170 t169)) w fun _ w =>
    k e w) (by kernel_rfl) (by intros; kernel_rfl)
noncomputable def c3_23_s:=@s_reg Try.prog 189 V3 c3_23 c3_24 25 o3_25 (fun N M G k e w =>
    M (e 6) fun t161 =>
    M (e 11) fun t162 =>
    N (xv (Instr.indexAt 29 t161 t162)) w fun t163 w =>
    N (xu (Instr.storeAt 4 t163 (Value.bool true))) w fun _ w =>
    k e w) (by kernel_rfl) (by intros; kernel_rfl)
noncomputable def c3_31_s:=@s_reg Try.prog 189 V3 c3_31 .ret 24 o3_24 (fun N M G k e w =>
    M (Value.bool false) fun t4 =>
    k (Env.p e 4 t4) w) (by kernel_rfl) (by intros; kernel_rfl)
noncomputable def c3_30_s:=@s_cond Try.prog 189 V3 c3_30 .skip 160 c3_31 (by kernel_rfl) (by kernel_rfl)
noncomputable def c3_29_s:=@s_reg Try.prog 189 V3 c3_29 c3_30 23 o3_23 (fun N M G k e w =>
    M (e 13) fun t150 =>
    N (xv (Instr.indexAt 22 t150 (Value.int IntKind.i64 0))) w fun t151 w =>
    N (xv (Instr.fieldAt 40 t151 11)) w fun t152 w =>
    N (xv (Instr.loadAt 2 t152)) w fun t153 w =>
    M (e 9) fun t154 =>
    N (xv (xbin BinOp.neq 2 (Operand.tmp 153) (Operand.tmp 154) t153 t154)) w fun t155 w =>
    M t155 fun t156 =>
    G (isB t156 false) (fun K => M (e 13) fun v => K v w) (fun t157 w =>
    G (isB t156 false) (fun K => N (builtin Builtin.len #[22] 3 ([false]).toArray ([t157]).toArray) w K) (fun t158 w =>
    G (isB t156 false) (fun K => N (xv (xbin BinOp.neq 3 (Operand.tmp 158) (Operand.const (Value.int IntKind.i64 2)) t158 (Value.int IntKind.i64 2))) w K) (fun t159 w =>
    N (xpick t156 (Value.bool true) t159) w fun t160 w =>
    k (Env.p e 160 t160) w) w) w) w) (by kernel_rfl) (by intros; kernel_rfl)
noncomputable def c3_28_s:=@s_reg Try.prog 189 V3 c3_28 c3_29 22 o3_22 (fun N M G k e w =>
    M (e 9) fun t148 =>
    N (xv (xbin BinOp.add 2 (Operand.tmp 148) (Operand.const (Value.int IntKind.i64 1)) t148 (Value.int IntKind.i64 1))) w fun t149 w =>
    M t149 fun t9 =>
    k (Env.p e 9 t9) w) (by kernel_rfl) (by intros; kernel_rfl)
noncomputable def c3_27_s:=@s_cond Try.prog 189 V3 c3_27 .skip 147 c3_28 (by kernel_rfl) (by kernel_rfl)
noncomputable def c3_26_s:=@s_reg Try.prog 189 V3 c3_26 c3_27 21 o3_21 (fun N M G k e w =>
    M (e 6) fun t136 =>
    M (e 11) fun t137 =>
    N (xv (Instr.indexAt 29 t136 t137)) w fun t138 w =>
    N (xv (Instr.loadAt 4 t138)) w fun t139 w =>
    N (xv (Op.unary UnOp.not t139)) w fun t140 w =>
    M t140 fun t141 =>
    G (isB t141 true) (fun K => M (e 13) fun v => K v w) (fun t142 w =>
    G (isB t141 true) (fun K => N (xv (Instr.indexAt 22 t142 (Value.int IntKind.i64 0))) w K) (fun t143 w =>
    G (isB t141 true) (fun K => N (xv (Instr.fieldAt 40 t143 10)) w K) (fun t144 w =>
    G (isB t141 true) (fun K => N (xv (Instr.loadAt 36 t144)) w K) (fun t145 w =>
    G (isB t141 true) (fun K => N (xv (xbin BinOp.eql 36 (Operand.tmp 145) (Operand.const (Value.int IntKind.i64 0)) t145 (Value.int IntKind.i64 0))) w K) (fun t146 w =>
    N (xpick t141 t146 (Value.bool false)) w fun t147 w =>
    k (Env.p e 147 t147) w) w) w) w) w) w) (by kernel_rfl) (by intros; kernel_rfl)
noncomputable def c3_22_s:=@s_seq Try.prog 189 V3 c3_22 c3_23 c3_26 (by kernel_rfl)
noncomputable def c3_34_s:=@s_reg Try.prog 189 V3 c3_34 .ret 20 o3_20 (fun N M G k e w =>
    M (Value.bool false) fun t4 =>
    k (Env.p e 4 t4) w) (by kernel_rfl) (by intros; kernel_rfl)
noncomputable def c3_33_s:=@s_cond Try.prog 189 V3 c3_33 .skip 135 c3_34 (by kernel_rfl) (by kernel_rfl)
noncomputable def c3_32_s:=@s_drw Try.prog 189 V3 c3_32 c3_33 19 o3_19 b3_19 53 (fun N T M G H Y k e w =>
    M (e 13) fun t83 =>
    T (FrX none w) (xv (Instr.indexAt 22 t83 (Value.int IntKind.i64 0))) fun t84 =>
    T (FrX none w) (xv (Instr.fieldAt 40 t84 0)) fun t85 =>
    T (FrX (some []) w) (xv (Instr.loadAt 3 t85)) fun t86 =>
    T (FrX none w) (xv (xbin BinOp.neq 3 (Operand.tmp 86) (Operand.const (Value.int IntKind.i64 2)) t86 (Value.int IntKind.i64 2))) fun t87 =>
    M t87 fun t88 =>
    H (isB t88 false) (fun K => M (e 13) K) (fun t89 =>
    H (isB t88 false) (fun K => T (FrX none w) (xv (Instr.indexAt 22 t89 (Value.int IntKind.i64 0))) K) (fun t90 =>
    H (isB t88 false) (fun K => T (FrX none w) (xv (Instr.fieldAt 40 t90 3)) K) (fun t91 =>
    H (isB t88 false) (fun K => T (FrX (some []) w) (xv (Instr.loadAt 3 t91)) K) (fun t92 =>
    H (isB t88 false) (fun K => M (e 11) K) (fun t93 =>
    H (isB t88 false) (fun K => T (FrX none w) (xv (xbin BinOp.neq 3 (Operand.tmp 92) (Operand.tmp 93) t92 t93)) K) (fun t94 =>
    T (FrX none w) (xpick t88 (Value.bool true) t94) fun t95 =>
    M t95 fun t96 =>
    H (isB t96 false) (fun K => M (e 13) K) (fun t97 =>
    H (isB t96 false) (fun K => T (FrX none w) (xv (Instr.indexAt 22 t97 (Value.int IntKind.i64 0))) K) (fun t98 =>
    H (isB t96 false) (fun K => T (FrX none w) (xv (Instr.fieldAt 40 t98 5)) K) (fun t99 =>
    H (isB t96 false) (fun K => T (FrX (some []) w) (xv (Instr.loadAt 3 t99)) K) (fun t100 =>
    H (isB t96 false) (fun K => T (FrX none w) (xv (xbin BinOp.neq 3 (Operand.tmp 100) (Operand.const (Value.int IntKind.i64 1)) t100 (Value.int IntKind.i64 1))) K) (fun t101 =>
    T (FrX none w) (xpick t96 (Value.bool true) t101) fun t102 =>
    M t102 fun t103 =>
    H (isB t103 false) (fun K => M (e 6) K) (fun t104 =>
    H (isB t103 false) (fun K => M (e 11) K) (fun t105 =>
    H (isB t103 false) (fun K => T (FrX none w) (xv (Instr.indexAt 29 t104 t105)) K) (fun t106 =>
    H (isB t103 false) (fun K => T (FrX (some []) w) (xv (Instr.loadAt 4 t106)) K) (fun t107 =>
    H (isB t103 false) (fun K => M t107 K) (fun t108 =>
    H (isB t108 true) (fun K => M (e 13) K) (fun t109 =>
    H (isB t108 true) (fun K => T (FrX none w) (xv (Instr.indexAt 22 t109 (Value.int IntKind.i64 0))) K) (fun t110 =>
    H (isB t108 true) (fun K => T (FrX none w) (xv (Instr.fieldAt 40 t110 11)) K) (fun t111 =>
    H (isB t108 true) (fun K => T (FrX (some []) w) (xv (Instr.loadAt 2 t111)) K) (fun t112 =>
    H (isB t108 true) (fun K => M (e 7) K) (fun t113 =>
    H (isB t108 true) (fun K => M (e 11) K) (fun t114 =>
    H (isB t108 true) (fun K => T (FrX none w) (xv (Instr.indexAt 30 t113 t114)) K) (fun t115 =>
    H (isB t108 true) (fun K => T (FrX (some []) w) (xv (Instr.loadAt 2 t115)) K) (fun t116 =>
    H (isB t108 true) (fun K => T (FrX none w) (xv (xbin BinOp.neq 2 (Operand.tmp 112) (Operand.tmp 116) t112 t116)) K) (fun t117 =>
    H (isB t108 true) (fun K => M t117 K) (fun t118 =>
    H (isB t118 false) (fun K => M (e 13) K) (fun t119 =>
    H (isB t118 false) (fun K => T (FrX none w) (xv (Instr.indexAt 22 t119 (Value.int IntKind.i64 0))) K) (fun t120 =>
    H (isB t118 false) (fun K => T (FrX none w) (xv (Instr.fieldAt 40 t120 10)) K) (fun t121 =>
    H (isB t118 false) (fun K => T (FrX (some []) w) (xv (Instr.loadAt 36 t121)) K) (fun t122 =>
    H (isB t118 false) (fun K => M (e 8) K) (fun t123 =>
    H (isB t118 false) (fun K => M (e 11) K) (fun t124 =>
    H (isB t118 false) (fun K => T (FrX none w) (xv (Instr.indexAt 31 t123 t124)) K) (fun t125 =>
    H (isB t118 false) (fun K => T (FrX (some []) w) (xv (Instr.loadAt 36 t125)) K) (fun t126 =>
    H (isB t118 false) (fun K => T (FrX none w) (xv (xbin BinOp.neq 36 (Operand.tmp 122) (Operand.tmp 126) t122 t126)) K) (fun t127 =>
    H (isB t108 true) (fun K => T (FrX none w) (xpick t118 (Value.bool true) t127) K) (fun t128 =>
    H (isB t108 true) (fun K => M t128 K) (fun t129 =>
    H (isB t129 false) (fun K => M (e 13) K) (fun t130 =>
    H (isB t129 false) (fun K => T (FrX (some []) w) (builtin Builtin.len #[22] 3 ([false]).toArray ([t130]).toArray) K) (fun t131 =>
    H (isB t129 false) (fun K => T (FrX none w) (xv (xbin BinOp.neq 3 (Operand.tmp 131) (Operand.const (Value.int IntKind.i64 1)) t131 (Value.int IntKind.i64 1))) K) (fun t132 =>
    H (isB t108 true) (fun K => T (FrX none w) (xpick t129 (Value.bool true) t132) K) (fun t133 =>
    H (isB t103 false) (fun K => T (FrX none w) (xpick t108 t133 (Value.bool false)) K) (fun t134 =>
    T (FrX none w) (xpick t103 (Value.bool true) t134) fun t135 =>
    k (Env.p e 135 t135) w))))))))))))))))))))))))))))))))))))))))))) (by kernel_rfl) (by kernel_rfl) (by kernel_rfl) (by intros; kernel_rfl)
noncomputable def c3_21_s:=@s_seq Try.prog 189 V3 c3_21 c3_22 c3_32 (by kernel_rfl)
noncomputable def c3_40_s:=@s_reg Try.prog 189 V3 c3_40 .ret 18 o3_18 (fun N M G k e w =>
    M (Value.bool false) fun t4 =>
    k (Env.p e 4 t4) w) (by kernel_rfl) (by intros; kernel_rfl)
noncomputable def c3_39_s:=@s_cond Try.prog 189 V3 c3_39 .skip 82 c3_40 (by kernel_rfl) (by kernel_rfl)
noncomputable def c3_38_s:=@s_reg Try.prog 189 V3 c3_38 c3_39 17 o3_17 (fun N M G k e w =>
    M (e 6) fun t62 =>
    M (e 11) fun t63 =>
    N (xv (Instr.indexAt 29 t62 t63)) w fun t64 w =>
    N (xv (Instr.loadAt 4 t64)) w fun t65 w =>
    M t65 fun t66 =>
    G (isB t66 false) (fun K => N (xv (Instr.fieldAt 40 (e 12) 12)) w K) (fun t67 w =>
    G (isB t66 false) (fun K => N (xv (Instr.loadAt 37 t67)) w K) (fun t68 w =>
    G (isB t66 false) (fun K => N (builtin Builtin.len #[37] 3 ([false]).toArray ([t68]).toArray) w K) (fun t69 w =>
    G (isB t66 false) (fun K => N (xv (xbin BinOp.gtr 3 (Operand.tmp 69) (Operand.const (Value.int IntKind.i64 0)) t69 (Value.int IntKind.i64 0))) w K) (fun t70 w =>
    G (isB t66 false) (fun K => M t70 fun v => K v w) (fun t71 w =>
    G (isB t71 true) (fun K => N (xv (Instr.fieldAt 40 (e 12) 12)) w K) (fun t72 w =>
    G (isB t71 true) (fun K => N (xv (Instr.loadAt 37 t72)) w K) (fun t73 w =>
    G (isB t71 true) (fun K => N (builtin Builtin.len #[37] 3 ([false]).toArray ([t73]).toArray) w K) (fun t74 w =>
    G (isB t71 true) (fun K => N (xv (xbin BinOp.lss 3 (Operand.tmp 74) (Operand.const (Value.int IntKind.i64 9)) t74 (Value.int IntKind.i64 9))) w K) (fun t75 w =>
    G (isB t66 false) (fun K => N (xpick t71 t75 (Value.bool false)) w K) (fun t76 w =>
    G (isB t66 false) (fun K => M t76 fun v => K v w) (fun t77 w =>
    G (isB t77 true) (fun K => N (xv (Instr.fieldAt 40 (e 12) 12)) w K) (fun t78 w =>
    G (isB t77 true) (fun K => N (xv (Instr.loadAt 37 t78)) w K) (fun t79 w =>
    G (isB t77 true) (fun K => N (xcall (Value.func (Fn.func 10) #[] #[]) [t79]) w K) (fun t80 w =>
    G (isB t66 false) (fun K => N (xpick t77 t80 (Value.bool false)) w K) (fun t81 w =>
    N (xpick t66 (Value.bool true) t81) w fun t82 w =>
    k (Env.p e 82 t82) w) w) w) w) w) w) w) w) w) w) w) w) w) w) w) w) (by kernel_rfl) (by intros; kernel_rfl)
noncomputable def c3_37_s:=@s_seq Try.prog 189 V3 c3_37 (.exit 1) c3_38 (by kernel_rfl)
noncomputable def c3_36_s:=@s_cond Try.prog 189 V3 c3_36 .skip 61 c3_37 (by kernel_rfl) (by kernel_rfl)
noncomputable def c3_35_s:=@s_reg Try.prog 189 V3 c3_35 c3_36 16 o3_16 (fun N M G k e w =>
    M (e 13) fun t59 =>
    N (builtin Builtin.len #[22] 3 ([false]).toArray ([t59]).toArray) w fun t60 w =>
    N (xv (xbin BinOp.eql 3 (Operand.tmp 60) (Operand.const (Value.int IntKind.i64 0)) t60 (Value.int IntKind.i64 0))) w fun t61 w =>
    k (Env.p e 61 t61) w) (by kernel_rfl) (by intros; kernel_rfl)
noncomputable def c3_20_s:=@s_seq Try.prog 189 V3 c3_20 c3_21 c3_35 (by kernel_rfl)
noncomputable def c3_19_s:=@s_reg Try.prog 189 V3 c3_19 c3_20 15 o3_15 (fun N M G k e w =>
    M (e 5) fun t56 =>
    N (xv (Instr.loadAt 40 (e 12))) w fun t57 w =>
    N (xcall (Value.func (Fn.func 9) #[] #[]) [t56, t57]) w fun t58 w =>
    M t58 fun t13 =>
    k (Env.p e 13 t13) w) (by kernel_rfl) (by intros; kernel_rfl)
noncomputable def c3_18_s:=@s_reg Try.prog 189 V3 c3_18 c3_19 14 o3_14 (fun N M G k e w =>
    M (e 11) fun t49 =>
    M (e 0) fun t50 =>
    M (e 11) fun t51 =>
    N (xv (Instr.indexAt 22 t50 t51)) w fun t52 w =>
    N (xv (Instr.fieldAt 40 t52 12)) w fun t53 w =>
    N (xv (Instr.loadAt 37 t53)) w fun t54 w =>
    N (xcall (Value.func (Fn.func 8) #[] #[]) [t49, (Value.int IntKind.i64 1), t54]) w fun t55 w =>
    N (xv (Instr.alloc 40 true (.tuple #[]))) w fun t12 w =>
    N (xu (Instr.storeAt 40 t12 t55)) w fun _ w =>
    k (Env.p e 12 t12) w) (by kernel_rfl) (by intros; kernel_rfl)
noncomputable def c3_17_s:=@s_reg Try.prog 189 V3 c3_17 c3_18 13 o3_13 (fun N M G k e w =>
    M (e 1) fun t41 =>
    M (e 10) fun t42 =>
    N (xv (Instr.indexAt 23 t41 t42)) w fun t43 w =>
    N (xv (Instr.loadAt 5 t43)) w fun t44 w =>
    N (xv (convert 5 3 t44)) w fun t45 w =>
    M (e 0) fun t46 =>
    N (builtin Builtin.len #[22] 3 ([false]).toArray ([t46]).toArray) w fun t47 w =>
    N (xv (xbin BinOp.rem 3 (Operand.tmp 45) (Operand.tmp 47) t45 t47)) w fun t48 w =>
    M t48 fun t11 =>
    k (Env.p e 11 t11) w) (by kernel_rfl) (by intros; kernel_rfl)
noncomputable def c3_16_s:=@s_block Try.prog 189 V3 c3_16 c3_17 1 (by kernel_rfl)
noncomputable def c3_14_s:=@s_seq Try.prog 189 V3 c3_14 c3_15 c3_16 (by kernel_rfl)
noncomputable def c3_42_s:=@s_cond Try.prog 189 V3 c3_42 (.exit 0) 38 .skip (by kernel_rfl) (by kernel_rfl)
noncomputable def c3_41_s:=@s_reg Try.prog 189 V3 c3_41 c3_42 11 o3_11 (fun N M G k e w =>
    M (e 10) fun t30 =>
    M (e 1) fun t31 =>
    N (builtin Builtin.len #[23] 3 ([false]).toArray ([t31]).toArray) w fun t32 w =>
    N (xv (xbin BinOp.lss 3 (Operand.tmp 30) (Operand.tmp 32) t30 t32)) w fun t33 w =>
    M t33 fun t34 =>
    G (isB t34 true) (fun K => M (e 0) fun v => K v w) (fun t35 w =>
    G (isB t34 true) (fun K => N (builtin Builtin.len #[22] 3 ([false]).toArray ([t35]).toArray) w K) (fun t36 w =>
    G (isB t34 true) (fun K => N (xv (xbin BinOp.gtr 3 (Operand.tmp 36) (Operand.const (Value.int IntKind.i64 0)) t36 (Value.int IntKind.i64 0))) w K) (fun t37 w =>
    N (xpick t34 t37 (Value.bool false)) w fun t38 w =>
    k (Env.p e 38 t38) w) w) w) w) (by kernel_rfl) (by intros; kernel_rfl)
noncomputable def c3_13_s:=@s_seq Try.prog 189 V3 c3_13 c3_14 c3_41 (by kernel_rfl)
noncomputable def c3_12_s:=@s_loop Try.prog 189 V3 c3_12 c3_13 (by kernel_rfl)
noncomputable def c3_11_s:=@s_block Try.prog 189 V3 c3_11 c3_12 0 (by kernel_rfl)
noncomputable def c3_10_s:=@s_reg Try.prog 189 V3 c3_10 c3_11 10 o3_10 (fun N M G k e w =>
    M (Value.int IntKind.i64 0) fun t10 =>
    k (Env.p e 10 t10) w) (by kernel_rfl) (by intros; kernel_rfl)
noncomputable def c3_8_s:=@s_seq Try.prog 189 V3 c3_8 c3_9 c3_10 (by kernel_rfl)
noncomputable def c3_7_s:=@s_reg Try.prog 189 V3 c3_7 c3_8 9 o3_9 (fun N M G k e w =>
    M (Value.int IntKind.i64 0) fun t9 =>
    k (Env.p e 9 t9) w) (by kernel_rfl) (by intros; kernel_rfl)
noncomputable def c3_6_s:=@s_reg Try.prog 189 V3 c3_6 c3_7 8 o3_8 (fun N M G k e w =>
    N (xv (Instr.makeSlice 31 (Value.int IntKind.i64 64) (Value.int IntKind.i64 64))) w fun t29 w =>
    M t29 fun t8 =>
    k (Env.p e 8 t8) w) (by kernel_rfl) (by intros; kernel_rfl)
noncomputable def c3_5_s:=@s_reg Try.prog 189 V3 c3_5 c3_6 7 o3_7 (fun N M G k e w =>
    N (xv (Instr.makeSlice 30 (Value.int IntKind.i64 64) (Value.int IntKind.i64 64))) w fun t28 w =>
    M t28 fun t7 =>
    k (Env.p e 7 t7) w) (by kernel_rfl) (by intros; kernel_rfl)
noncomputable def c3_4_s:=@s_reg Try.prog 189 V3 c3_4 c3_5 6 o3_6 (fun N M G k e w =>
    N (xv (Instr.makeSlice 29 (Value.int IntKind.i64 64) (Value.int IntKind.i64 64))) w fun t27 w =>
    M t27 fun t6 =>
    k (Env.p e 6 t6) w) (by kernel_rfl) (by intros; kernel_rfl)
noncomputable def c3_45_s:=@s_reg Try.prog 189 V3 c3_45 .ret 5 o3_5 (fun N M G k e w =>
    M (e 5) fun t25 =>
    N (xv (xbin BinOp.neq 25 (Operand.tmp 25) (Operand.const (Value.pointer none)) t25 (Value.pointer none))) w fun t26 w =>
    M t26 fun t4 =>
    k (Env.p e 4 t4) w) (by kernel_rfl) (by intros; kernel_rfl)
noncomputable def c3_44_s:=@s_cond Try.prog 189 V3 c3_44 .skip 24 c3_45 (by kernel_rfl) (by kernel_rfl)
noncomputable def c3_43_s:=@s_reg Try.prog 189 V3 c3_43 c3_44 4 o3_4 (fun N M G k e w =>
    M (e 5) fun t18 =>
    N (xv (xbin BinOp.eql 25 (Operand.tmp 18) (Operand.const (Value.pointer none)) t18 (Value.pointer none))) w fun t19 w =>
    M t19 fun t20 =>
    G (isB t20 false) (fun K => M (e 0) fun v => K v w) (fun t21 w =>
    G (isB t20 false) (fun K => N (builtin Builtin.len #[22] 3 ([false]).toArray ([t21]).toArray) w K) (fun t22 w =>
    G (isB t20 false) (fun K => N (xv (xbin BinOp.gtr 3 (Operand.tmp 22) (Operand.const (Value.int IntKind.i64 64)) t22 (Value.int IntKind.i64 64))) w K) (fun t23 w =>
    N (xpick t20 (Value.bool true) t23) w fun t24 w =>
    k (Env.p e 24 t24) w) w) w) w) (by kernel_rfl) (by intros; kernel_rfl)
noncomputable def c3_3_s:=@s_seq Try.prog 189 V3 c3_3 c3_4 c3_43 (by kernel_rfl)
noncomputable def c3_2_s:=@s_reg Try.prog 189 V3 c3_2 c3_3 3 o3_3 (fun N M G k e w =>
    N (xv (Instr.build 28 ([(0, (Value.int IntKind.i64 1)), (5, (Value.int IntKind.i64 64))]).toArray)) w fun t16 w =>
    N (xcall (Value.func (Fn.func 7) #[] #[]) [t16]) w fun t17 w =>
    M t17 fun t5 =>
    k (Env.p e 5 t5) w) (by kernel_rfl) (by intros; kernel_rfl)
noncomputable def c3_48_s:=@s_reg Try.prog 189 V3 c3_48 .ret 2 o3_2 (fun N M G k e w =>
    M (Value.bool false) fun t4 =>
    k (Env.p e 4 t4) w) (by kernel_rfl) (by intros; kernel_rfl)
noncomputable def c3_47_s:=@s_cond Try.prog 189 V3 c3_47 .skip 15 c3_48 (by kernel_rfl) (by kernel_rfl)
noncomputable def c3_46_s:=@s_reg Try.prog 189 V3 c3_46 c3_47 1 o3_1 (fun N M G k e w =>
    N (xcall (Value.func (Fn.func 6) #[] #[]) []) w fun t14 w =>
    N (xv (Op.unary UnOp.not t14)) w fun t15 w =>
    k (Env.p e 15 t15) w) (by kernel_rfl) (by intros; kernel_rfl)
noncomputable def c3_1_s:=@s_seq Try.prog 189 V3 c3_1 c3_2 c3_46 (by kernel_rfl)
noncomputable def c3_s:=@s_reg Try.prog 189 V3 c3 c3_1 0 o3_0 (fun N M G k e w =>
    M (Value.bool false) fun t4 =>
    k (Env.p e 4 t4) w) (by kernel_rfl) (by intros; kernel_rfl)
theorem call3 {a0 a1 : Value} {w : World} {R : Value → World → Prop} (h : W3 Try.prog 189 V3 c3 (retQ Try.prog [.tmp 4] R) (argE [a0, a1]) w) : CallsN Try.prog 3 [a0, a1] w R :=
  callsN_of_W3 (c := c3) (rs := [.tmp 4]) V3 Try.ntmps3 (by rw [Try.results3]) mixed Try.func3 (by kernel_rfl) (by kernel_rfl) (by kernel_rfl) (by kernel_rfl) (by simp) h
noncomputable def w3t_3:=w3t Try.prog 189 V3
noncomputable def hk3 := And.intro @c3_9_s <| And.intro @c3_15_s <| And.intro @c3_25_s <| And.intro @c3_24_s <| And.intro @c3_23_s <| And.intro @c3_31_s <| And.intro @c3_30_s <| And.intro @c3_29_s <| And.intro @c3_28_s <| And.intro @c3_27_s <| And.intro @c3_26_s <| And.intro @c3_22_s <| And.intro @c3_34_s <| And.intro @c3_33_s <| And.intro @c3_32_s <| And.intro @c3_21_s <| And.intro @c3_40_s <| And.intro @c3_39_s <| And.intro @c3_38_s <| And.intro @c3_37_s <| And.intro @c3_36_s <| And.intro @c3_35_s <| And.intro @c3_20_s <| And.intro @c3_19_s <| And.intro @c3_18_s <| And.intro @c3_17_s <| And.intro @c3_16_s <| And.intro @c3_14_s <| And.intro @c3_42_s <| And.intro @c3_41_s <| And.intro @c3_13_s <| And.intro @c3_12_s <| And.intro @c3_11_s <| And.intro @c3_10_s <| And.intro @c3_8_s <| And.intro @c3_7_s <| And.intro @c3_6_s <| And.intro @c3_5_s <| And.intro @c3_4_s <| And.intro @c3_45_s <| And.intro @c3_44_s <| And.intro @c3_43_s <| And.intro @c3_3_s <| And.intro @c3_2_s <| And.intro @c3_48_s <| And.intro @c3_47_s <| And.intro @c3_46_s <| And.intro @c3_1_s <| And.intro @c3_s <| @w3t_3
-- K3: ↓hk3
/-! ### vouch/vouchlaw15.OriginTells -/
def V4 : Nat → Bool := fun i => [0, 1, 2, 3, 8, 9, 10, 11, 12, 13, 14, 15, 16, 18, 24, 55, 82, 88, 167, 198, 210, 228].elem i
noncomputable def c4:Code:=(Try.f4.body.getD .skip)
noncomputable def o4_0:Array Oper:=rO (cL c4)
noncomputable def c4_1:Code:=(cR c4)
noncomputable def c4_2:Code:=(cR c4_1)
noncomputable def o4_3:Array Oper:=rO (cL c4_2)
noncomputable def c4_3:Code:=(cR c4_2)
noncomputable def c4_4:Code:=(cR c4_3)
noncomputable def o4_8:Array Oper:=rO (cL c4_4)
noncomputable def c4_5:Code:=(cR c4_4)
noncomputable def o4_9:Array Oper:=rO (cL c4_5)
noncomputable def c4_6:Code:=(cR c4_5)
noncomputable def c4_7:Code:=(cR c4_6)
noncomputable def c4_8:Code:=(cR c4_7)
noncomputable def o4_14:Array Oper:=rO (cL c4_8)
noncomputable def c4_9:Code:=(cR c4_8)
noncomputable def c4_10:Code:=(cR c4_9)
noncomputable def c4_11:Code:=(cR c4_10)
noncomputable def c4_12:Code:=(cR c4_11)
noncomputable def c4_13:Code:=(cR c4_12)
noncomputable def o4_27:Array Oper:=rO (cL c4_13)
noncomputable def c4_14:Code:=(cL c4_12)
noncomputable def o4_21:Array Oper:=rO (cL c4_14)
noncomputable def b4_21:List Row:=[(0, 0, 8192, 200, true), (1, 1, 803469022129495137770981046170581301261101496891396417650688, 201, true), (2, 3, 1606938044258990275541962092341162602522202993782792835301376, 202, true), (0, 0, 512, 203, true), (0, 0, 2, 204, true), (24, 24, 19283256531107883306503545108093951230266435925393514023616512, 205, false), (36, 63, 28924884796661824959755317662140926845399653888090271035424768, 206, true), (127, 127, 51422017416287688817342786954917203280710495801049370729644032, 15, true)]
noncomputable def c4_15:Code:=(cR c4_14)
noncomputable def c4_16:Code:=(cL c4_15)
noncomputable def c4_17:Code:=(cL c4_16)
noncomputable def c4_18:Code:=(cR c4_17)
noncomputable def c4_19:Code:=(cR c4_18)
noncomputable def o4_23:Array Oper:=rO c4_19
noncomputable def c4_20:Code:=(cL c4_18)
noncomputable def c4_21:Code:=(cL c4_20)
noncomputable def o4_24:Array Oper:=rO (cL c4_21)
noncomputable def c4_22:Code:=(cR c4_21)
noncomputable def o4_25:Array Oper:=rO (cL c4_22)
noncomputable def c4_23:Code:=(cR c4_22)
noncomputable def c4_24:Code:=(cL c4_23)
noncomputable def o4_26:Array Oper:=rO (cL c4_24)
noncomputable def c4_25:Code:=(cL c4_17)
noncomputable def o4_22:Array Oper:=rO (cL c4_25)
noncomputable def c4_26:Code:=(cR c4_25)
noncomputable def c4_27:Code:=(cL c4_11)
noncomputable def o4_19:Array Oper:=rO (cL c4_27)
noncomputable def b4_19:List Row:=[(0, 0, 8192, 169, true), (1, 1, 374144419156711147060143317175368453031918731001856, 170, true), (2, 3, 748288838313422294120286634350736906063837462003712, 171, true), (0, 0, 8192, 172, true), (8, 8, 2993155353253689176481146537402947624255349848014848, 173, true), (16, 24, 5986310706507378352962293074805895248510699696029696, 174, true), (36, 63, 13469199089641601294165159418313264309149074316066816, 175, true), (64, 127, 23945242826029513411849172299223580994042798784118784, 176, true), (128, 255, 47890485652059026823698344598447161988085597568245760, 177, true), (384, 511, 143671456956177080471095033795341485964256792704712704, 178, true), (640, 1023, 239452428260295134118491722992235809940427987841187840, 179, true), (128, 255, 47890485652059026823698344598447161988085597568239616, 180, true), (2176, 2303, 814138256085003456002871858173601753797455158660038656, 181, true), (5248, 8191, 1963509911734420099771632128536333641511509500297740288, 182, true), (128, 255, 47890485652059026823698344598447161988085597568245760, 183, true), (16512, 16639, 6177872649115614460257086453199683896463042086302646272, 184, true), (32896, 49407, 12307854812579169893690474561800920630937998575037054976, 185, true), (128, 255, 47890485652059026823698344598447161988085597568239616, 186, true), (131200, 131327, 49087747793360502494290803213408341037787737507443507200, 187, true), (327808, 508159, 122647533754923167695491460516623181851487215372256411648, 188, true), (532608, 1048575, 199272310798217610613408811874138641032424171481436520448, 189, true), (1048704, 2097151, 392366748947319606766560537295077598168385300876570394624, 190, true), (2097280, 4194303, 784637716923335095479473677900958302012794430558004314112, 191, true), (4194304, 8388607, 1569275433846670190958947355801916604025588861116008636416, 192, true), (12582912, 16777215, 4707826301540010572876842067405749812076766583348025884672, 193, true), (20971520, 33554431, 7846377169233350954794736779009583020127944305580043141120, 194, true), (4194304, 8388607, 1569275433846670190958947355801916604025588861116008628736, 195, true), (71303168, 75497471, 26677682375393393246302105048632582268435010638972146679808, 196, false), (138412032, 209715199, 51786089316940116301645262741463247932844432416828284731392, 197, true), (306184192, 536870911, 114557106670806923940003156973539912093867986861468629860352, 198, true), (541065216, 1073741823, 202436530966220454633704208898447241919300963083965113040896, 199, true)]
noncomputable def c4_28:Code:=(cR c4_27)
noncomputable def c4_29:Code:=(cL c4_28)
noncomputable def o4_20:Array Oper:=rO (cL c4_29)
noncomputable def c4_30:Code:=(cL c4_10)
noncomputable def o4_17:Array Oper:=rO (cL c4_30)
noncomputable def b4_17:List Row:=[(0, 0, 4096, 122, true), (1, 1, 2658455991569831745807614120560689152, 123, true), (2, 3, 5316911983139663491615228241121378304, 124, true), (4, 7, 10633823966279326983230456482242756608, 125, true), (8, 15, 21267647932558653966460912964485517312, 126, true), (24, 31, 63802943797675961899382738893456539648, 127, true), (40, 63, 106338239662793269832304564822427566080, 128, true), (72, 127, 191408831393027885698148216680369618944, 129, true), (136, 255, 361550014853497117429835520396253724672, 130, true), (264, 511, 701832381774435580893210127828021936128, 131, true), (520, 1023, 1361129467683753853853498429727072845824, 132, true), (1024, 2047, 2722258935367507707706996859454145695744, 133, true), (3072, 4095, 8166776806102523123120990578362437074944, 134, true), (5120, 8191, 13611294676837538538534984297270728458240, 135, true), (9216, 16383, 24500330418307569369362971735087311224832, 136, true), (1024, 2047, 2722258935367507707706996859454145691650, 137, true), (50176, 65535, 133390687833007877677642846113253138890752, 138, true), (66560, 131071, 176946830798888001000954795864519469957120, 139, true), (132096, 262143, 348449143727040986586495598010130648530944, 140, true), (262144, 524287, 696898287454081973172991196020261297065984, 141, true), (786432, 1048575, 2090694862362245919518973588060783891185664, 142, true), (1310720, 2097151, 3484491437270409865864955980101306485309440, 143, true), (2359296, 4194303, 6272084587086737758556920764182351673556992, 144, true), (262144, 524287, 696898287454081973172991196020261297070080, 145, true), (8650752, 8912895, 22997643485984705114708709468668622803042304, 146, true), (21233664, 33554431, 56448761283780639827012286877641165062012928, 147, true), (33816576, 67108863, 89899879081576574539315864286613707320983552, 148, true), (67371008, 134217727, 178405961588244985132285746181186892047843328, 149, true), (134217728, 268435455, 356811923176489970264571492362373784095690752, 150, true), (402653184, 536870911, 1070435769529469910793714477087121352287059968, 151, true), (671088640, 1073741823, 1784059615882449851322857461811868920478433280, 152, true), (1207959552, 2147483647, 3211307308588409732381143431261364056861179904, 153, true), (2281701376, 4294967295, 6065802694000329494497715370160354329626673152, 154, true), (134217728, 268435455, 356811923176489970264571492362373784095694848, 155, true), (8724152320, 8858370047, 23192775006471848067197147003554295966219632640, 156, true), (17314086912, 26038239231, 46028738089767206164129722514746218148343578624, 157, true), (38788923392, 68719476735, 103118645798005601406461161292726023603653443584, 158, true), (68853694464, 137438953471, 183044516589539354745725175581897751241087254528, 159, true), (137573171200, 274877906943, 365375409332725729550921208179070754913983135744, 160, true), (274877906944, 549755813887, 730750818665451459101842416358141509827966275584, 161, true), (824633720832, 1099511627775, 2192252455996354377305527249074424529483898814464, 162, true), (1374389534720, 2199023255551, 3653754093327257295509212081790707549139831357440, 163, true), (2473901162496, 4398046511103, 6576757367989063131916581747223273588451696443392, 164, true), (274877906944, 549755813887, 730750818665451459101842416358141509827966272000, 165, true), (9070970929152, 9345848836095, 24114777015959898150360799739818669824322886959104, 166, false), (22265110462464, 35184372088831, 59190816311901568187249235725009462296065267990528, 167, true), (35459249995776, 70368744177663, 94266855607843238224137671710200254767807649021952, 168, true)]
noncomputable def c4_31:Code:=(cR c4_30)
noncomputable def c4_32:Code:=(cL c4_31)
noncomputable def o4_18:Array Oper:=rO (cL c4_32)
noncomputable def c4_33:Code:=(cL c4_9)
noncomputable def o4_15:Array Oper:=rO (cL c4_33)
noncomputable def c4_34:Code:=(cR c4_33)
noncomputable def c4_35:Code:=(cL c4_34)
noncomputable def o4_16:Array Oper:=rO (cL c4_35)
noncomputable def b4_16:List Row:=[(0, 0, 4096, 90, true), (1, 1, 618970019642690137449562112, 91, true), (2, 3, 1237940039285380274899124224, 92, true), (4, 7, 2475880078570760549798248448, 93, true), (8, 15, 4951760157141521099596505088, 94, true), (24, 31, 14855280471424563298789490688, 95, true), (40, 63, 24758800785707605497982484480, 96, true), (72, 127, 44565841414273689896368472064, 97, true), (128, 255, 79228162514264337593543952384, 98, true), (384, 511, 237684487542793012780631851008, 99, true), (128, 255, 79228162514264337593543950848, 100, true), (1152, 1279, 713053462628379038341895553024, 101, false), (2688, 4095, 1663791412799551089464422957056, 102, true), (4232, 8191, 2619481123127864661686546857984, 103, true), (10248, 16383, 5075554161070059127086409318400, 104, true), (16384, 32767, 10141204801825835211973625651200, 105, true), (49152, 65535, 30423614405477505635920876929024, 106, true), (81920, 131071, 50706024009129176059868128215040, 107, true), (147456, 262143, 91270843216432516907762630787072, 108, true), (262144, 524287, 162259276829213363391578010290176, 109, true), (786432, 1048575, 486777830487640090174734030864384, 110, true), (1310720, 2097151, 811296384146066816957890051440640, 111, true), (262144, 524287, 162259276829213363391578010288640, 112, true), (4456448, 4718591, 2758407706096627177656826174898176, 113, false), (10747904, 16777215, 6652630349997747899054698421813248, 114, true), (262144, 524287, 162259276829213363391578010288640, 115, true), (262144, 524287, 162259276829213363391578010288130, 116, true), (109314048, 113770495, 62469821579247144905757533960929280, 117, false), (151257088, 268435455, 93623602730456110676940511936249856, 118, true), (268713984, 536870911, 166325899954745523311579434170974208, 119, true), (536887304, 1073741823, 332317145102790951202684838292226048, 120, true), (1073741832, 2147483647, 664614002844218093593424629736669184, 121, true), (4294967295, 4294967295, 1329227995784915872903807060280344576, 9, true)]
noncomputable def c4_36:Code:=(cL c4_7)
noncomputable def o4_12:Array Oper:=rO (cL c4_36)
noncomputable def c4_37:Code:=(cR c4_36)
noncomputable def c4_38:Code:=(cL c4_37)
noncomputable def o4_13:Array Oper:=rO (cL c4_38)
noncomputable def c4_39:Code:=(cL c4_6)
noncomputable def o4_10:Array Oper:=rO (cL c4_39)
noncomputable def c4_40:Code:=(cR c4_39)
noncomputable def c4_41:Code:=(cL c4_40)
noncomputable def o4_11:Array Oper:=rO (cL c4_41)
noncomputable def c4_42:Code:=(cL c4_3)
noncomputable def o4_4:Array Oper:=rO (cL c4_42)
noncomputable def c4_43:Code:=(cR c4_42)
noncomputable def c4_44:Code:=(cL c4_43)
noncomputable def c4_45:Code:=(cL c4_44)
noncomputable def c4_46:Code:=(cR c4_45)
noncomputable def c4_47:Code:=(cR c4_46)
noncomputable def o4_6:Array Oper:=rO c4_47
noncomputable def c4_48:Code:=(cL c4_46)
noncomputable def c4_49:Code:=(cL c4_48)
noncomputable def o4_7:Array Oper:=rO c4_49
noncomputable def c4_50:Code:=(cL c4_45)
noncomputable def o4_5:Array Oper:=rO (cL c4_50)
noncomputable def c4_51:Code:=(cR c4_50)
noncomputable def c4_52:Code:=(cL c4_1)
noncomputable def o4_1:Array Oper:=rO (cL c4_52)
noncomputable def c4_53:Code:=(cR c4_52)
noncomputable def c4_54:Code:=(cL c4_53)
noncomputable def o4_2:Array Oper:=rO (cL c4_54)
noncomputable def c4_13_s:=@s_reg Try.prog 229 V4 c4_13 .ret 27 o4_27 (fun N M G k e w =>
    M (Value.bool true) fun t8 =>
    k (Env.p e 8 t8) w) (by kernel_rfl) (by intros; kernel_rfl)
noncomputable def c4_19_s:=@s_rend Try.prog 229 V4 c4_19 23 o4_23 (fun N M G k e w =>
    M (e 14) fun t211 =>
    N (xv (xbin BinOp.add 2 (Operand.tmp 211) (Operand.const (Value.int IntKind.i64 1)) t211 (Value.int IntKind.i64 1))) w fun t212 w =>
    M t212 fun t14 =>
    k (Env.p e 14 t14) w) (by kernel_rfl) (by intros; kernel_rfl)
noncomputable def c4_24_s:=@s_reg Try.prog 229 V4 c4_24 .ret 26 o4_26 (fun N M G k e w =>
    M (Value.bool false) fun t8 =>
    k (Env.p e 8 t8) w) (by kernel_rfl) (by intros; kernel_rfl)
noncomputable def c4_23_s:=@s_cond Try.prog 229 V4 c4_23 .skip 228 c4_24 (by kernel_rfl) (by kernel_rfl)
noncomputable def c4_22_s:=@s_reg Try.prog 229 V4 c4_22 c4_23 25 o4_25 (fun N M G k e w =>
    M (e 16) fun t220 =>
    N (xv (xbin BinOp.neq 36 (Operand.tmp 220) (Operand.const (Value.int IntKind.i64 0)) t220 (Value.int IntKind.i64 0))) w fun t221 w =>
    M t221 fun t222 =>
    G (isB t222 false) (fun K => N (xv (Instr.fieldAt 50 (e 15) 1)) w K) (fun t223 w =>
    G (isB t222 false) (fun K => N (xv (Instr.loadAt 35 t223)) w K) (fun t224 w =>
    G (isB t222 false) (fun K => N (xv (Instr.fieldAt 40 (e 13) 8)) w K) (fun t225 w =>
    G (isB t222 false) (fun K => N (xv (Instr.loadAt 35 t225)) w K) (fun t226 w =>
    G (isB t222 false) (fun K => N (xv (xbin BinOp.neq 35 (Operand.tmp 224) (Operand.tmp 226) t224 t226)) w K) (fun t227 w =>
    N (xpick t222 (Value.bool true) t227) w fun t228 w =>
    k (Env.p e 228 t228) w) w) w) w) w) w) (by kernel_rfl) (by intros; kernel_rfl)
noncomputable def c4_21_s:=@s_reg Try.prog 229 V4 c4_21 c4_22 24 o4_24 (fun N M G k e w =>
    M (e 9) fun t214 =>
    M (e 1) fun t215 =>
    M (e 14) fun t216 =>
    N (xcall (Value.func (Fn.func 14) #[] #[]) [t214, t215, t216]) w fun t217 w =>
    M t217 fun t213 =>
    N (xv (Instr.extract t213 0)) w fun t218 w =>
    N (xv (Instr.extract t213 1)) w fun t219 w =>
    N (xv (Instr.alloc 50 true (.tuple #[]))) w fun t15 w =>
    N (xu (Instr.storeAt 50 t15 t218)) w fun _ w =>
    M t219 fun t16 =>
    k (Env.p (Env.p e 15 t15) 16 t16) w) (by kernel_rfl) (by intros; kernel_rfl)
noncomputable def c4_20_s:=@s_block Try.prog 229 V4 c4_20 c4_21 3 (by kernel_rfl)
noncomputable def c4_18_s:=@s_seq Try.prog 229 V4 c4_18 c4_19 c4_20 (by kernel_rfl)
noncomputable def c4_26_s:=@s_cond Try.prog 229 V4 c4_26 (.exit 2) 210 .skip (by kernel_rfl) (by kernel_rfl)
noncomputable def c4_25_s:=@s_reg Try.prog 229 V4 c4_25 c4_26 22 o4_22 (fun N M G k e w =>
    M (e 14) fun t206 =>
    N (xv (Instr.fieldAt 40 (e 13) 7)) w fun t207 w =>
    N (xv (Instr.fieldAt 33 t207 1)) w fun t208 w =>
    N (xv (Instr.loadAt 2 t208)) w fun t209 w =>
    N (xv (xbin BinOp.lss 2 (Operand.tmp 206) (Operand.tmp 209) t206 t209)) w fun t210 w =>
    k (Env.p e 210 t210) w) (by kernel_rfl) (by intros; kernel_rfl)
noncomputable def c4_17_s:=@s_seq Try.prog 229 V4 c4_17 c4_18 c4_25 (by kernel_rfl)
noncomputable def c4_16_s:=@s_loop Try.prog 229 V4 c4_16 c4_17 (by kernel_rfl)
noncomputable def c4_15_s:=@s_block Try.prog 229 V4 c4_15 c4_16 2 (by kernel_rfl)
noncomputable def c4_14_s:=@s_drw Try.prog 229 V4 c4_14 c4_15 21 o4_21 b4_21 8 (fun N T M G H Y k e w =>
    T (FrX none w) (xv (Instr.fieldAt 40 (e 13) 7)) fun t199 =>
    T (FrX none w) (xv (Instr.fieldAt 33 t199 0)) fun t200 =>
    T (FrX (some []) w) (xv (Instr.loadAt 2 t200)) fun t201 =>
    M (e 9) fun t202 =>
    M (e 1) fun t203 =>
    N (xcall (Value.func (Fn.func 13) #[] #[]) [t202, t203]) w fun t204 w5 =>
    Y true (xv (Instr.loadAt 2 t200)) t201 w w5 ∧ (T (FrX (some []) w5) (builtin Builtin.max #[2, 2] 2 ([false, false]).toArray ([t201, t204]).toArray) fun t205 =>
    M t205 fun t14 =>
    k (Env.p e 14 t14) w5)) (by kernel_rfl) (by kernel_rfl) (by kernel_rfl) (by intros; kernel_rfl)
noncomputable def c4_12_s:=@s_seq Try.prog 229 V4 c4_12 c4_13 c4_14 (by kernel_rfl)
noncomputable def c4_29_s:=@s_reg Try.prog 229 V4 c4_29 .ret 20 o4_20 (fun N M G k e w =>
    M (Value.bool false) fun t8 =>
    k (Env.p e 8 t8) w) (by kernel_rfl) (by intros; kernel_rfl)
noncomputable def c4_28_s:=@s_cond Try.prog 229 V4 c4_28 .skip 198 c4_29 (by kernel_rfl) (by kernel_rfl)
noncomputable def c4_27_s:=@s_drw Try.prog 229 V4 c4_27 c4_28 19 o4_19 b4_19 31 (fun N T M G H Y k e w =>
    T (FrX none w) (xv (Instr.fieldAt 40 (e 13) 7)) fun t168 =>
    T (FrX none w) (xv (Instr.fieldAt 33 t168 0)) fun t169 =>
    T (FrX (some []) w) (xv (Instr.loadAt 2 t169)) fun t170 =>
    T (FrX none w) (xv (Instr.fieldAt 40 (e 13) 7)) fun t171 =>
    T (FrX none w) (xv (Instr.fieldAt 33 t171 1)) fun t172 =>
    T (FrX (some []) w) (xv (Instr.loadAt 2 t172)) fun t173 =>
    T (FrX none w) (xv (xbin BinOp.geq 2 (Operand.tmp 170) (Operand.tmp 173) t170 t173)) fun t174 =>
    M t174 fun t175 =>
    H (isB t175 false) (fun K => T (FrX none w) (xv (Instr.fieldAt 40 (e 13) 7)) K) (fun t176 =>
    H (isB t175 false) (fun K => T (FrX none w) (xv (Instr.fieldAt 33 t176 0)) K) (fun t177 =>
    H (isB t175 false) (fun K => T (FrX (some []) w) (xv (Instr.loadAt 2 t177)) K) (fun t178 =>
    H (isB t175 false) (fun K => T (FrX none w) (xv (Instr.fieldAt 33 (e 11) 0)) K) (fun t179 =>
    H (isB t175 false) (fun K => T (FrX (some []) w) (xv (Instr.loadAt 2 t179)) K) (fun t180 =>
    H (isB t175 false) (fun K => T (FrX (some []) w) (builtin Builtin.max #[2, 2] 2 ([false, false]).toArray ([t178, t180]).toArray) K) (fun t181 =>
    H (isB t175 false) (fun K => T (FrX none w) (xv (Instr.fieldAt 40 (e 13) 7)) K) (fun t182 =>
    H (isB t175 false) (fun K => T (FrX none w) (xv (Instr.fieldAt 33 t182 1)) K) (fun t183 =>
    H (isB t175 false) (fun K => T (FrX (some []) w) (xv (Instr.loadAt 2 t183)) K) (fun t184 =>
    H (isB t175 false) (fun K => T (FrX none w) (xv (Instr.fieldAt 33 (e 11) 1)) K) (fun t185 =>
    H (isB t175 false) (fun K => T (FrX (some []) w) (xv (Instr.loadAt 2 t185)) K) (fun t186 =>
    H (isB t175 false) (fun K => T (FrX (some []) w) (builtin Builtin.min #[2, 2] 2 ([false, false]).toArray ([t184, t186]).toArray) K) (fun t187 =>
    H (isB t175 false) (fun K => T (FrX none w) (xv (xbin BinOp.geq 2 (Operand.tmp 181) (Operand.tmp 187) t181 t187)) K) (fun t188 =>
    T (FrX none w) (xpick t175 (Value.bool true) t188) fun t189 =>
    M t189 fun t190 =>
    H (isB t190 false) (fun K => T (FrX none w) (xv (Instr.fieldAt 40 (e 13) 7)) K) (fun t191 =>
    H (isB t190 false) (fun K => T (FrX none w) (xv (Instr.fieldAt 33 t191 1)) K) (fun t192 =>
    H (isB t190 false) (fun K => T (FrX (some []) w) (xv (Instr.loadAt 2 t192)) K) (fun t193 =>
    H (isB t190 false) (fun K => M (e 9) K) (fun t194 =>
    G (isB t190 false) (fun K => N (xcall (Value.func (Fn.func 11) #[] #[]) [t194]) w K) (fun t195 w27 =>
    Y (isB t190 false) (xv (Instr.loadAt 2 t192)) t193 w w27 ∧ (H (isB t190 false) (fun K => T (FrX none w27) (xv (xbin BinOp.add 2 (Operand.tmp 195) (Operand.const (Value.int IntKind.i64 1)) t195 (Value.int IntKind.i64 1))) K) (fun t196 =>
    H (isB t190 false) (fun K => T (FrX none w27) (xv (xbin BinOp.gtr 2 (Operand.tmp 193) (Operand.tmp 196) t193 t196)) K) (fun t197 =>
    T (FrX none w27) (xpick t190 (Value.bool true) t197) fun t198 =>
    k (Env.p e 198 t198) w27)))) w)))))))))))))))))) (by kernel_rfl) (by kernel_rfl) (by kernel_rfl) (by intros; kernel_rfl)
noncomputable def c4_11_s:=@s_seq Try.prog 229 V4 c4_11 c4_12 c4_27 (by kernel_rfl)
noncomputable def c4_32_s:=@s_reg Try.prog 229 V4 c4_32 .ret 18 o4_18 (fun N M G k e w =>
    M (Value.bool false) fun t8 =>
    k (Env.p e 8 t8) w) (by kernel_rfl) (by intros; kernel_rfl)
noncomputable def c4_31_s:=@s_cond Try.prog 229 V4 c4_31 .skip 167 c4_32 (by kernel_rfl) (by kernel_rfl)
noncomputable def c4_30_s:=@s_drw Try.prog 229 V4 c4_30 c4_31 17 o4_17 b4_17 47 (fun N T M G H Y k e w =>
    M (e 12) fun t121 =>
    T (FrX (some []) w) (builtin Builtin.len #[22] 3 ([false]).toArray ([t121]).toArray) fun t122 =>
    T (FrX none w) (xv (xbin BinOp.neq 3 (Operand.tmp 122) (Operand.const (Value.int IntKind.i64 2)) t122 (Value.int IntKind.i64 2))) fun t123 =>
    M t123 fun t124 =>
    H (isB t124 false) (fun K => M (e 12) K) (fun t125 =>
    H (isB t124 false) (fun K => T (FrX none w) (xv (Instr.indexAt 22 t125 (Value.int IntKind.i64 1))) K) (fun t126 =>
    H (isB t124 false) (fun K => T (FrX none w) (xv (Instr.fieldAt 40 t126 0)) K) (fun t127 =>
    H (isB t124 false) (fun K => T (FrX (some []) w) (xv (Instr.loadAt 3 t127)) K) (fun t128 =>
    H (isB t124 false) (fun K => T (FrX none w) (xv (xbin BinOp.neq 3 (Operand.tmp 128) (Operand.const (Value.int IntKind.i64 7)) t128 (Value.int IntKind.i64 7))) K) (fun t129 =>
    T (FrX none w) (xpick t124 (Value.bool true) t129) fun t130 =>
    M t130 fun t131 =>
    H (isB t131 false) (fun K => M (e 12) K) (fun t132 =>
    H (isB t131 false) (fun K => T (FrX none w) (xv (Instr.indexAt 22 t132 (Value.int IntKind.i64 1))) K) (fun t133 =>
    H (isB t131 false) (fun K => T (FrX none w) (xv (Instr.fieldAt 40 t133 6)) K) (fun t134 =>
    H (isB t131 false) (fun K => T (FrX (some []) w) (xv (Instr.loadAt 9 t134)) K) (fun t135 =>
    H (isB t131 false) (fun K => M (e 1) K) (fun t136 =>
    H (isB t131 false) (fun K => T (FrX none w) (xv (xbin BinOp.neq 9 (Operand.tmp 135) (Operand.tmp 136) t135 t136)) K) (fun t137 =>
    T (FrX none w) (xpick t131 (Value.bool true) t137) fun t138 =>
    M t138 fun t139 =>
    H (isB t139 false) (fun K => M (e 12) K) (fun t140 =>
    H (isB t139 false) (fun K => T (FrX none w) (xv (Instr.indexAt 22 t140 (Value.int IntKind.i64 1))) K) (fun t141 =>
    H (isB t139 false) (fun K => T (FrX none w) (xv (Instr.fieldAt 40 t141 8)) K) (fun t142 =>
    H (isB t139 false) (fun K => T (FrX (some []) w) (xv (Instr.loadAt 35 t142)) K) (fun t143 =>
    H (isB t139 false) (fun K => T (FrX none w) (xv (Instr.fieldAt 40 (e 13) 8)) K) (fun t144 =>
    H (isB t139 false) (fun K => T (FrX (some []) w) (xv (Instr.loadAt 35 t144)) K) (fun t145 =>
    H (isB t139 false) (fun K => T (FrX none w) (xv (xbin BinOp.neq 35 (Operand.tmp 143) (Operand.tmp 145) t143 t145)) K) (fun t146 =>
    T (FrX none w) (xpick t139 (Value.bool true) t146) fun t147 =>
    M t147 fun t148 =>
    H (isB t148 false) (fun K => M (e 12) K) (fun t149 =>
    H (isB t148 false) (fun K => T (FrX none w) (xv (Instr.indexAt 22 t149 (Value.int IntKind.i64 1))) K) (fun t150 =>
    H (isB t148 false) (fun K => T (FrX none w) (xv (Instr.fieldAt 40 t150 7)) K) (fun t151 =>
    H (isB t148 false) (fun K => T (FrX none w) (xv (Instr.fieldAt 33 t151 0)) K) (fun t152 =>
    H (isB t148 false) (fun K => T (FrX (some []) w) (xv (Instr.loadAt 2 t152)) K) (fun t153 =>
    H (isB t148 false) (fun K => T (FrX none w) (xv (Instr.fieldAt 40 (e 13) 7)) K) (fun t154 =>
    H (isB t148 false) (fun K => T (FrX none w) (xv (Instr.fieldAt 33 t154 0)) K) (fun t155 =>
    H (isB t148 false) (fun K => T (FrX (some []) w) (xv (Instr.loadAt 2 t155)) K) (fun t156 =>
    H (isB t148 false) (fun K => T (FrX none w) (xv (xbin BinOp.neq 2 (Operand.tmp 153) (Operand.tmp 156) t153 t156)) K) (fun t157 =>
    T (FrX none w) (xpick t148 (Value.bool true) t157) fun t158 =>
    M t158 fun t159 =>
    H (isB t159 false) (fun K => M (e 12) K) (fun t160 =>
    H (isB t159 false) (fun K => T (FrX none w) (xv (Instr.indexAt 22 t160 (Value.int IntKind.i64 1))) K) (fun t161 =>
    H (isB t159 false) (fun K => T (FrX none w) (xv (Instr.fieldAt 40 t161 11)) K) (fun t162 =>
    H (isB t159 false) (fun K => T (FrX (some []) w) (xv (Instr.loadAt 2 t162)) K) (fun t163 =>
    H (isB t159 false) (fun K => M (e 9) K) (fun t164 =>
    G (isB t159 false) (fun K => N (xcall (Value.func (Fn.func 11) #[] #[]) [t164]) w K) (fun t165 w44 =>
    Y (isB t159 false) (xv (Instr.loadAt 2 t162)) t163 w w44 ∧ (H (isB t159 false) (fun K => T (FrX none w44) (xv (xbin BinOp.neq 2 (Operand.tmp 163) (Operand.tmp 165) t163 t165)) K) (fun t166 =>
    T (FrX none w44) (xpick t159 (Value.bool true) t166) fun t167 =>
    k (Env.p e 167 t167) w44))) w))))))))))))))))))))))))))))))))) (by kernel_rfl) (by kernel_rfl) (by kernel_rfl) (by intros; kernel_rfl)
noncomputable def c4_10_s:=@s_seq Try.prog 229 V4 c4_10 c4_11 c4_30 (by kernel_rfl)
noncomputable def c4_35_s:=@s_drw Try.prog 229 V4 c4_35 .ret 16 o4_16 b4_16 33 (fun N T M G H Y k e w =>
    M (e 12) fun t89 =>
    T (FrX (some []) w) (builtin Builtin.len #[22] 3 ([false]).toArray ([t89]).toArray) fun t90 =>
    T (FrX none w) (xv (xbin BinOp.eql 3 (Operand.tmp 90) (Operand.const (Value.int IntKind.i64 1)) t90 (Value.int IntKind.i64 1))) fun t91 =>
    M t91 fun t92 =>
    H (isB t92 true) (fun K => T (FrX none w) (xv (Instr.fieldAt 40 (e 13) 10)) K) (fun t93 =>
    H (isB t92 true) (fun K => T (FrX (some []) w) (xv (Instr.loadAt 36 t93)) K) (fun t94 =>
    H (isB t92 true) (fun K => T (FrX none w) (xv (xbin BinOp.eql 3 (Operand.tmp 94) (Operand.const (Value.int IntKind.i64 21)) t94 (Value.int IntKind.i64 21))) K) (fun t95 =>
    H (isB t92 true) (fun K => M t95 K) (fun t96 =>
    H (isB t96 true) (fun K => T (FrX none w) (xv (Instr.fieldAt 33 (e 11) 0)) K) (fun t97 =>
    H (isB t96 true) (fun K => T (FrX (some []) w) (xv (Instr.loadAt 2 t97)) K) (fun t98 =>
    H (isB t96 true) (fun K => M (e 9) K) (fun t99 =>
    G (isB t96 true) (fun K => N (xcall (Value.func (Fn.func 11) #[] #[]) [t99]) w K) (fun t100 w11 =>
    Y (isB t96 true) (xv (Instr.loadAt 2 t97)) t98 w w11 ∧ (H (isB t96 true) (fun K => T (FrX none w11) (xv (xbin BinOp.gtr 2 (Operand.tmp 98) (Operand.tmp 100) t98 t100)) K) (fun t101 =>
    H (isB t92 true) (fun K => T (FrX none w11) (xpick t96 t101 (Value.bool false)) K) (fun t102 =>
    H (isB t92 true) (fun K => M t102 K) (fun t103 =>
    H (isB t103 false) (fun K => T (FrX none w11) (xv (Instr.fieldAt 40 (e 13) 10)) K) (fun t104 =>
    H (isB t103 false) (fun K => T (FrX (some []) w11) (xv (Instr.loadAt 36 t104)) K) (fun t105 =>
    H (isB t103 false) (fun K => T (FrX none w11) (xv (xbin BinOp.eql 3 (Operand.tmp 105) (Operand.const (Value.int IntKind.i64 20)) t105 (Value.int IntKind.i64 20))) K) (fun t106 =>
    H (isB t103 false) (fun K => M t106 K) (fun t107 =>
    H (isB t107 true) (fun K => T (FrX none w11) (xv (Instr.fieldAt 33 (e 11) 1)) K) (fun t108 =>
    H (isB t107 true) (fun K => T (FrX (some []) w11) (xv (Instr.loadAt 2 t108)) K) (fun t109 =>
    H (isB t107 true) (fun K => T (FrX none w11) (xv (xbin BinOp.sub 2 (Operand.tmp 109) (Operand.const (Value.int IntKind.i64 1)) t109 (Value.int IntKind.i64 1))) K) (fun t110 =>
    H (isB t107 true) (fun K => M (e 9) K) (fun t111 =>
    H (isB t107 true) (fun K => M (e 9) K) (fun t114 =>
    H (isB t107 true) (fun K => M (e 1) K) (fun t115 =>
    G (isB t107 true) (fun K => N (xcall (Value.func (Fn.func 11) #[] #[]) [t111]) w11 K) (fun t112 w23 =>
    Y (isB t107 true) (xv (Instr.loadAt 2 t108)) t109 w11 w23 ∧ (H (isB t107 true) (fun K => T (FrX (some []) w23) (builtin Builtin.min #[2, 2] 2 ([false, false]).toArray ([t110, t112]).toArray) K) (fun t113 =>
    G (isB t107 true) (fun K => N (xcall (Value.func (Fn.func 13) #[] #[]) [t114, t115]) w23 K) (fun t116 w27 =>
    Y (isB t107 true) (builtin Builtin.min #[2, 2] 2 ([false, false]).toArray ([t110, t112]).toArray) t113 w23 w27 ∧ (Y (isB t107 true) (xv (Instr.loadAt 2 t108)) t109 w11 w27 ∧ (H (isB t107 true) (fun K => T (FrX none w27) (xv (xbin BinOp.lss 2 (Operand.tmp 113) (Operand.tmp 116) t113 t116)) K) (fun t117 =>
    H (isB t103 false) (fun K => T (FrX none w27) (xpick t107 t117 (Value.bool false)) K) (fun t118 =>
    H (isB t92 true) (fun K => T (FrX none w27) (xpick t103 (Value.bool true) t118) K) (fun t119 =>
    T (FrX none w27) (xpick t92 t119 (Value.bool false)) fun t120 =>
    M t120 fun t8 =>
    k (Env.p e 8 t8) w27)))))) w23))) w11))))))))))))))) w)))))))) (by kernel_rfl) (by kernel_rfl) (by kernel_rfl) (by intros; kernel_rfl)
noncomputable def c4_34_s:=@s_cond Try.prog 229 V4 c4_34 .skip 88 c4_35 (by kernel_rfl) (by kernel_rfl)
noncomputable def c4_33_s:=@s_reg Try.prog 229 V4 c4_33 c4_34 15 o4_15 (fun N M G k e w =>
    N (xv (Instr.fieldAt 40 (e 13) 10)) w fun t86 w =>
    N (xv (Instr.loadAt 36 t86)) w fun t87 w =>
    N (xv (xbin BinOp.neq 36 (Operand.tmp 87) (Operand.const (Value.int IntKind.i64 0)) t87 (Value.int IntKind.i64 0))) w fun t88 w =>
    k (Env.p e 88 t88) w) (by kernel_rfl) (by intros; kernel_rfl)
noncomputable def c4_9_s:=@s_seq Try.prog 229 V4 c4_9 c4_10 c4_33 (by kernel_rfl)
noncomputable def c4_8_s:=@s_reg Try.prog 229 V4 c4_8 c4_9 14 o4_14 (fun N M G k e w =>
    M (e 12) fun t83 =>
    N (xv (Instr.indexAt 22 t83 (Value.int IntKind.i64 0))) w fun t84 w =>
    N (xv (Instr.loadAt 40 t84)) w fun t85 w =>
    N (xv (Instr.alloc 40 true (.tuple #[]))) w fun t13 w =>
    N (xu (Instr.storeAt 40 t13 t85)) w fun _ w =>
    k (Env.p e 13 t13) w) (by kernel_rfl) (by intros; kernel_rfl)
noncomputable def c4_38_s:=@s_reg Try.prog 229 V4 c4_38 .ret 13 o4_13 (fun N M G k e w =>
    M (Value.bool false) fun t8 =>
    k (Env.p e 8 t8) w) (by kernel_rfl) (by intros; kernel_rfl)
noncomputable def c4_37_s:=@s_cond Try.prog 229 V4 c4_37 .skip 82 c4_38 (by kernel_rfl) (by kernel_rfl)
noncomputable def c4_36_s:=@s_reg Try.prog 229 V4 c4_36 c4_37 12 o4_12 (fun N M G k e w =>
    M (e 12) fun t59 =>
    N (builtin Builtin.len #[22] 3 ([false]).toArray ([t59]).toArray) w fun t60 w =>
    N (xv (xbin BinOp.eql 3 (Operand.tmp 60) (Operand.const (Value.int IntKind.i64 0)) t60 (Value.int IntKind.i64 0))) w fun t61 w =>
    M t61 fun t62 =>
    G (isB t62 false) (fun K => M (e 12) fun v => K v w) (fun t63 w =>
    G (isB t62 false) (fun K => N (xv (Instr.indexAt 22 t63 (Value.int IntKind.i64 0))) w K) (fun t64 w =>
    G (isB t62 false) (fun K => N (xv (Instr.fieldAt 40 t64 0)) w K) (fun t65 w =>
    G (isB t62 false) (fun K => N (xv (Instr.loadAt 3 t65)) w K) (fun t66 w =>
    G (isB t62 false) (fun K => N (xv (xbin BinOp.neq 3 (Operand.tmp 66) (Operand.const (Value.int IntKind.i64 6)) t66 (Value.int IntKind.i64 6))) w K) (fun t67 w =>
    N (xpick t62 (Value.bool true) t67) w fun t68 w =>
    M t68 fun t69 =>
    G (isB t69 false) (fun K => M (e 12) fun v => K v w) (fun t70 w =>
    G (isB t69 false) (fun K => N (xv (Instr.indexAt 22 t70 (Value.int IntKind.i64 0))) w K) (fun t71 w =>
    G (isB t69 false) (fun K => N (xv (Instr.fieldAt 40 t71 4)) w K) (fun t72 w =>
    G (isB t69 false) (fun K => N (xv (Instr.loadAt 3 t72)) w K) (fun t73 w =>
    G (isB t69 false) (fun K => N (xv (xbin BinOp.neq 3 (Operand.tmp 73) (Operand.const (Value.int IntKind.i64 1)) t73 (Value.int IntKind.i64 1))) w K) (fun t74 w =>
    N (xpick t69 (Value.bool true) t74) w fun t75 w =>
    M t75 fun t76 =>
    G (isB t76 false) (fun K => M (e 12) fun v => K v w) (fun t77 w =>
    G (isB t76 false) (fun K => N (xv (Instr.indexAt 22 t77 (Value.int IntKind.i64 0))) w K) (fun t78 w =>
    G (isB t76 false) (fun K => N (xv (Instr.fieldAt 40 t78 5)) w K) (fun t79 w =>
    G (isB t76 false) (fun K => N (xv (Instr.loadAt 3 t79)) w K) (fun t80 w =>
    G (isB t76 false) (fun K => N (xv (xbin BinOp.neq 3 (Operand.tmp 80) (Operand.const (Value.int IntKind.i64 9)) t80 (Value.int IntKind.i64 9))) w K) (fun t81 w =>
    N (xpick t76 (Value.bool true) t81) w fun t82 w =>
    k (Env.p e 82 t82) w) w) w) w) w) w) w) w) w) w) w) w) w) w) w) w) (by kernel_rfl) (by intros; kernel_rfl)
noncomputable def c4_7_s:=@s_seq Try.prog 229 V4 c4_7 c4_8 c4_36 (by kernel_rfl)
noncomputable def c4_41_s:=@s_reg Try.prog 229 V4 c4_41 .ret 11 o4_11 (fun N M G k e w =>
    M (e 12) fun t56 =>
    N (builtin Builtin.len #[22] 3 ([false]).toArray ([t56]).toArray) w fun t57 w =>
    N (xv (xbin BinOp.eql 3 (Operand.tmp 57) (Operand.const (Value.int IntKind.i64 0)) t57 (Value.int IntKind.i64 0))) w fun t58 w =>
    M t58 fun t8 =>
    k (Env.p e 8 t8) w) (by kernel_rfl) (by intros; kernel_rfl)
noncomputable def c4_40_s:=@s_cond Try.prog 229 V4 c4_40 .skip 55 c4_41 (by kernel_rfl) (by kernel_rfl)
noncomputable def c4_39_s:=@s_reg Try.prog 229 V4 c4_39 c4_40 10 o4_10 (fun N M G k e w =>
    M (e 1) fun t43 =>
    N (builtin Builtin.len #[9] 3 ([false]).toArray ([t43]).toArray) w fun t44 w =>
    N (xv (xbin BinOp.lss 3 (Operand.tmp 44) (Operand.const (Value.int IntKind.i64 1)) t44 (Value.int IntKind.i64 1))) w fun t45 w =>
    M t45 fun t46 =>
    G (isB t46 false) (fun K => M (e 1) fun v => K v w) (fun t47 w =>
    G (isB t46 false) (fun K => N (builtin Builtin.len #[9] 3 ([false]).toArray ([t47]).toArray) w K) (fun t48 w =>
    G (isB t46 false) (fun K => N (xv (xbin BinOp.gtr 3 (Operand.tmp 48) (Operand.const (Value.int IntKind.i64 32)) t48 (Value.int IntKind.i64 32))) w K) (fun t49 w =>
    N (xpick t46 (Value.bool true) t49) w fun t50 w =>
    M t50 fun t51 =>
    G (isB t51 false) (fun K => M (e 2) fun v => K v w) (fun t52 w =>
    G (isB t51 false) (fun K => M (e 3) fun v => K v w) (fun t53 w =>
    G (isB t51 false) (fun K => N (xv (xbin BinOp.geq 5 (Operand.tmp 52) (Operand.tmp 53) t52 t53)) w K) (fun t54 w =>
    N (xpick t51 (Value.bool true) t54) w fun t55 w =>
    k (Env.p e 55 t55) w) w) w) w) w) w) w) (by kernel_rfl) (by intros; kernel_rfl)
noncomputable def c4_6_s:=@s_seq Try.prog 229 V4 c4_6 c4_7 c4_39 (by kernel_rfl)
noncomputable def c4_5_s:=@s_reg Try.prog 229 V4 c4_5 c4_6 9 o4_9 (fun N M G k e w =>
    M (e 9) fun t38 =>
    M (e 1) fun t39 =>
    N (xv (Instr.loadAt 33 (e 11))) w fun t40 w =>
    N (xv (Instr.build 40 ([(0, (Value.int IntKind.i64 5)), (4, (Value.int IntKind.i64 1)), (5, (Value.int IntKind.i64 9)), (6, t39), (7, t40)]).toArray)) w fun t41 w =>
    N (xcall (Value.func (Fn.func 9) #[] #[]) [t38, t41]) w fun t42 w =>
    M t42 fun t12 =>
    k (Env.p e 12 t12) w) (by kernel_rfl) (by intros; kernel_rfl)
noncomputable def c4_4_s:=@s_reg Try.prog 229 V4 c4_4 c4_5 8 o4_8 (fun N M G k e w =>
    M (e 2) fun t33 =>
    N (xv (convert 5 2 t33)) w fun t34 w =>
    M (e 3) fun t35 =>
    N (xv (convert 5 2 t35)) w fun t36 w =>
    N (xv (Instr.build 33 ([(0, t34), (1, t36)]).toArray)) w fun t37 w =>
    N (xv (Instr.alloc 33 true (.tuple #[]))) w fun t11 w =>
    N (xu (Instr.storeAt 33 t11 t37)) w fun _ w =>
    k (Env.p e 11 t11) w) (by kernel_rfl) (by intros; kernel_rfl)
noncomputable def c4_47_s:=@s_rend Try.prog 229 V4 c4_47 6 o4_6 (fun N M G k e w =>
    M (e 10) fun t25 =>
    N (xv (xbin BinOp.add 3 (Operand.tmp 25) (Operand.const (Value.int IntKind.i64 1)) t25 (Value.int IntKind.i64 1))) w fun t26 w =>
    M t26 fun t10 =>
    k (Env.p e 10 t10) w) (by kernel_rfl) (by intros; kernel_rfl)
noncomputable def c4_49_s:=@s_rend Try.prog 229 V4 c4_49 7 o4_7 (fun N M G k e w =>
    M (e 9) fun t27 =>
    M (e 0) fun t28 =>
    M (e 10) fun t29 =>
    N (xv (Instr.indexAt 22 t28 t29)) w fun t30 w =>
    N (xv (Instr.loadAt 40 t30)) w fun t31 w =>
    N (xcall (Value.func (Fn.func 9) #[] #[]) [t27, t31]) w fun t32 w =>
    k e w) (by kernel_rfl) (by intros; kernel_rfl)
noncomputable def c4_48_s:=@s_block Try.prog 229 V4 c4_48 c4_49 1 (by kernel_rfl)
noncomputable def c4_46_s:=@s_seq Try.prog 229 V4 c4_46 c4_47 c4_48 (by kernel_rfl)
noncomputable def c4_51_s:=@s_cond Try.prog 229 V4 c4_51 (.exit 0) 24 .skip (by kernel_rfl) (by kernel_rfl)
noncomputable def c4_50_s:=@s_reg Try.prog 229 V4 c4_50 c4_51 5 o4_5 (fun N M G k e w =>
    M (e 10) fun t21 =>
    M (e 0) fun t22 =>
    N (builtin Builtin.len #[22] 3 ([false]).toArray ([t22]).toArray) w fun t23 w =>
    N (xv (xbin BinOp.lss 3 (Operand.tmp 21) (Operand.tmp 23) t21 t23)) w fun t24 w =>
    k (Env.p e 24 t24) w) (by kernel_rfl) (by intros; kernel_rfl)
noncomputable def c4_45_s:=@s_seq Try.prog 229 V4 c4_45 c4_46 c4_50 (by kernel_rfl)
noncomputable def c4_44_s:=@s_loop Try.prog 229 V4 c4_44 c4_45 (by kernel_rfl)
noncomputable def c4_43_s:=@s_block Try.prog 229 V4 c4_43 c4_44 0 (by kernel_rfl)
noncomputable def c4_42_s:=@s_reg Try.prog 229 V4 c4_42 c4_43 4 o4_4 (fun N M G k e w =>
    M (Value.int IntKind.i64 0) fun t10 =>
    k (Env.p e 10 t10) w) (by kernel_rfl) (by intros; kernel_rfl)
noncomputable def c4_3_s:=@s_seq Try.prog 229 V4 c4_3 c4_4 c4_42 (by kernel_rfl)
noncomputable def c4_2_s:=@s_reg Try.prog 229 V4 c4_2 c4_3 3 o4_3 (fun N M G k e w =>
    N (xv (Instr.build 28 ([(0, (Value.int IntKind.i64 3)), (5, (Value.int IntKind.i64 3))]).toArray)) w fun t19 w =>
    N (xcall (Value.func (Fn.func 7) #[] #[]) [t19]) w fun t20 w =>
    M t20 fun t9 =>
    k (Env.p e 9 t9) w) (by kernel_rfl) (by intros; kernel_rfl)
noncomputable def c4_54_s:=@s_reg Try.prog 229 V4 c4_54 .ret 2 o4_2 (fun N M G k e w =>
    M (Value.bool false) fun t8 =>
    k (Env.p e 8 t8) w) (by kernel_rfl) (by intros; kernel_rfl)
noncomputable def c4_53_s:=@s_cond Try.prog 229 V4 c4_53 .skip 18 c4_54 (by kernel_rfl) (by kernel_rfl)
noncomputable def c4_52_s:=@s_reg Try.prog 229 V4 c4_52 c4_53 1 o4_1 (fun N M G k e w =>
    N (xcall (Value.func (Fn.func 6) #[] #[]) []) w fun t17 w =>
    N (xv (Op.unary UnOp.not t17)) w fun t18 w =>
    k (Env.p e 18 t18) w) (by kernel_rfl) (by intros; kernel_rfl)
noncomputable def c4_1_s:=@s_seq Try.prog 229 V4 c4_1 c4_2 c4_52 (by kernel_rfl)
noncomputable def c4_s:=@s_reg Try.prog 229 V4 c4 c4_1 0 o4_0 (fun N M G k e w =>
    M (Value.bool false) fun t8 =>
    k (Env.p e 8 t8) w) (by kernel_rfl) (by intros; kernel_rfl)
theorem call4 {a0 a1 a2 a3 : Value} {w : World} {R : Value → World → Prop} (h : W3 Try.prog 229 V4 c4 (retQ Try.prog [.tmp 8] R) (argE [a0, a1, a2, a3]) w) : CallsN Try.prog 4 [a0, a1, a2, a3] w R :=
  callsN_of_W3 (c := c4) (rs := [.tmp 8]) V4 Try.ntmps4 (by rw [Try.results4]) mixed Try.func4 (by kernel_rfl) (by kernel_rfl) (by kernel_rfl) (by kernel_rfl) (by simp) h
noncomputable def w3t_4:=w3t Try.prog 229 V4
noncomputable def hk4 := And.intro @c4_13_s <| And.intro @c4_19_s <| And.intro @c4_24_s <| And.intro @c4_23_s <| And.intro @c4_22_s <| And.intro @c4_21_s <| And.intro @c4_20_s <| And.intro @c4_18_s <| And.intro @c4_26_s <| And.intro @c4_25_s <| And.intro @c4_17_s <| And.intro @c4_16_s <| And.intro @c4_15_s <| And.intro @c4_14_s <| And.intro @c4_12_s <| And.intro @c4_29_s <| And.intro @c4_28_s <| And.intro @c4_27_s <| And.intro @c4_11_s <| And.intro @c4_32_s <| And.intro @c4_31_s <| And.intro @c4_30_s <| And.intro @c4_10_s <| And.intro @c4_35_s <| And.intro @c4_34_s <| And.intro @c4_33_s <| And.intro @c4_9_s <| And.intro @c4_8_s <| And.intro @c4_38_s <| And.intro @c4_37_s <| And.intro @c4_36_s <| And.intro @c4_7_s <| And.intro @c4_41_s <| And.intro @c4_40_s <| And.intro @c4_39_s <| And.intro @c4_6_s <| And.intro @c4_5_s <| And.intro @c4_4_s <| And.intro @c4_47_s <| And.intro @c4_49_s <| And.intro @c4_48_s <| And.intro @c4_46_s <| And.intro @c4_51_s <| And.intro @c4_50_s <| And.intro @c4_45_s <| And.intro @c4_44_s <| And.intro @c4_43_s <| And.intro @c4_42_s <| And.intro @c4_3_s <| And.intro @c4_2_s <| And.intro @c4_54_s <| And.intro @c4_53_s <| And.intro @c4_52_s <| And.intro @c4_1_s <| And.intro @c4_s <| @w3t_4
-- K4: ↓hk4
/-! ### vouch/vouchlaw15.plain -/
def V10 : Nat → Bool := fun i => [0, 2, 3, 4, 8, 43].elem i
noncomputable def c10:Code:=(Try.f10.body.getD .skip)
noncomputable def o10_0:Array Oper:=rO (cL c10)
noncomputable def c10_1:Code:=(cR c10)
noncomputable def c10_2:Code:=(cR c10_1)
noncomputable def o10_7:Array Oper:=rO (cL c10_2)
noncomputable def c10_3:Code:=(cL c10_1)
noncomputable def o10_1:Array Oper:=rO (cL c10_3)
noncomputable def c10_4:Code:=(cR c10_3)
noncomputable def c10_5:Code:=(cL c10_4)
noncomputable def c10_6:Code:=(cL c10_5)
noncomputable def c10_7:Code:=(cR c10_6)
noncomputable def c10_8:Code:=(cR c10_7)
noncomputable def o10_3:Array Oper:=rO c10_8
noncomputable def c10_9:Code:=(cL c10_7)
noncomputable def c10_10:Code:=(cL c10_9)
noncomputable def o10_4:Array Oper:=rO (cL c10_10)
noncomputable def c10_11:Code:=(cR c10_10)
noncomputable def o10_5:Array Oper:=rO (cL c10_11)
noncomputable def c10_12:Code:=(cR c10_11)
noncomputable def c10_13:Code:=(cL c10_12)
noncomputable def o10_6:Array Oper:=rO (cL c10_13)
noncomputable def c10_14:Code:=(cL c10_6)
noncomputable def o10_2:Array Oper:=rO (cL c10_14)
noncomputable def c10_15:Code:=(cR c10_14)
noncomputable def c10_2_s:=@s_reg Try.prog 44 V10 c10_2 .ret 7 o10_7 (fun N M G k e w =>
    M (Value.bool true) fun t2 =>
    k (Env.p e 2 t2) w) (by kernel_rfl) (by intros; kernel_rfl)
noncomputable def c10_8_s:=@s_rend Try.prog 44 V10 c10_8 3 o10_3 (fun N M G k e w =>
    M (e 3) fun t9 =>
    N (xv (xbin BinOp.add 3 (Operand.tmp 9) (Operand.const (Value.int IntKind.i64 1)) t9 (Value.int IntKind.i64 1))) w fun t10 w =>
    M t10 fun t3 =>
    k (Env.p e 3 t3) w) (by kernel_rfl) (by intros; kernel_rfl)
noncomputable def c10_13_s:=@s_reg Try.prog 44 V10 c10_13 .ret 6 o10_6 (fun N M G k e w =>
    M (Value.bool false) fun t2 =>
    k (Env.p e 2 t2) w) (by kernel_rfl) (by intros; kernel_rfl)
noncomputable def c10_12_s:=@s_cond Try.prog 44 V10 c10_12 .skip 43 c10_13 (by kernel_rfl) (by kernel_rfl)
noncomputable def c10_11_s:=@s_reg Try.prog 44 V10 c10_11 c10_12 5 o10_5 (fun N M G k e w =>
    N (xv (Instr.fieldAt 57 (e 4) 0)) w fun t15 w =>
    N (xv (Instr.loadAt 9 t15)) w fun t16 w =>
    N (builtin Builtin.len #[9] 3 ([false]).toArray ([t16]).toArray) w fun t17 w =>
    N (xv (xbin BinOp.lss 3 (Operand.tmp 17) (Operand.const (Value.int IntKind.i64 1)) t17 (Value.int IntKind.i64 1))) w fun t18 w =>
    M t18 fun t19 =>
    G (isB t19 false) (fun K => N (xv (Instr.fieldAt 57 (e 4) 0)) w K) (fun t20 w =>
    G (isB t19 false) (fun K => N (xv (Instr.loadAt 9 t20)) w K) (fun t21 w =>
    G (isB t19 false) (fun K => N (builtin Builtin.len #[9] 3 ([false]).toArray ([t21]).toArray) w K) (fun t22 w =>
    G (isB t19 false) (fun K => N (xv (xbin BinOp.gtr 3 (Operand.tmp 22) (Operand.const (Value.int IntKind.i64 32)) t22 (Value.int IntKind.i64 32))) w K) (fun t23 w =>
    N (xpick t19 (Value.bool true) t23) w fun t24 w =>
    M t24 fun t25 =>
    G (isB t25 false) (fun K => N (xv (Instr.fieldAt 57 (e 4) 1)) w K) (fun t26 w =>
    G (isB t25 false) (fun K => N (xv (Instr.fieldAt 35 t26 1)) w K) (fun t27 w =>
    G (isB t25 false) (fun K => N (xv (Instr.loadAt 9 t27)) w K) (fun t28 w =>
    G (isB t25 false) (fun K => N (builtin Builtin.len #[9] 3 ([false]).toArray ([t28]).toArray) w K) (fun t29 w =>
    G (isB t25 false) (fun K => N (xv (xbin BinOp.gtr 3 (Operand.tmp 29) (Operand.const (Value.int IntKind.i64 256)) t29 (Value.int IntKind.i64 256))) w K) (fun t30 w =>
    N (xpick t25 (Value.bool true) t30) w fun t31 w =>
    M t31 fun t32 =>
    G (isB t32 false) (fun K => N (xv (Instr.fieldAt 57 (e 4) 1)) w K) (fun t33 w =>
    G (isB t32 false) (fun K => N (xv (Instr.fieldAt 35 t33 0)) w K) (fun t34 w =>
    G (isB t32 false) (fun K => N (xv (Instr.loadAt 4 t34)) w K) (fun t35 w =>
    G (isB t32 false) (fun K => N (xv (Op.unary UnOp.not t35)) w K) (fun t36 w =>
    G (isB t32 false) (fun K => M t36 fun v => K v w) (fun t37 w =>
    G (isB t37 true) (fun K => N (xv (Instr.fieldAt 57 (e 4) 1)) w K) (fun t38 w =>
    G (isB t37 true) (fun K => N (xv (Instr.fieldAt 35 t38 1)) w K) (fun t39 w =>
    G (isB t37 true) (fun K => N (xv (Instr.loadAt 9 t39)) w K) (fun t40 w =>
    G (isB t37 true) (fun K => N (xv (xbin BinOp.neq 9 (Operand.tmp 40) (Operand.const (Value.string ⟨#[]⟩)) t40 (Value.string ⟨#[]⟩))) w K) (fun t41 w =>
    G (isB t32 false) (fun K => N (xpick t37 t41 (Value.bool false)) w K) (fun t42 w =>
    N (xpick t32 (Value.bool true) t42) w fun t43 w =>
    k (Env.p e 43 t43) w) w) w) w) w) w) w) w) w) w) w) w) w) w) w) w) w) w) w) w) (by kernel_rfl) (by intros; kernel_rfl)
noncomputable def c10_10_s:=@s_reg Try.prog 44 V10 c10_10 c10_11 4 o10_4 (fun N M G k e w =>
    M (e 0) fun t11 =>
    M (e 3) fun t12 =>
    N (xv (Instr.indexAt 37 t11 t12)) w fun t13 w =>
    N (xv (Instr.loadAt 57 t13)) w fun t14 w =>
    N (xv (Instr.alloc 57 true (.tuple #[]))) w fun t4 w =>
    N (xu (Instr.storeAt 57 t4 t14)) w fun _ w =>
    k (Env.p e 4 t4) w) (by kernel_rfl) (by intros; kernel_rfl)
noncomputable def c10_9_s:=@s_block Try.prog 44 V10 c10_9 c10_10 1 (by kernel_rfl)
noncomputable def c10_7_s:=@s_seq Try.prog 44 V10 c10_7 c10_8 c10_9 (by kernel_rfl)
noncomputable def c10_15_s:=@s_cond Try.prog 44 V10 c10_15 (.exit 0) 8 .skip (by kernel_rfl) (by kernel_rfl)
noncomputable def c10_14_s:=@s_reg Try.prog 44 V10 c10_14 c10_15 2 o10_2 (fun N M G k e w =>
    M (e 3) fun t5 =>
    M (e 0) fun t6 =>
    N (builtin Builtin.len #[37] 3 ([false]).toArray ([t6]).toArray) w fun t7 w =>
    N (xv (xbin BinOp.lss 3 (Operand.tmp 5) (Operand.tmp 7) t5 t7)) w fun t8 w =>
    k (Env.p e 8 t8) w) (by kernel_rfl) (by intros; kernel_rfl)
noncomputable def c10_6_s:=@s_seq Try.prog 44 V10 c10_6 c10_7 c10_14 (by kernel_rfl)
noncomputable def c10_5_s:=@s_loop Try.prog 44 V10 c10_5 c10_6 (by kernel_rfl)
noncomputable def c10_4_s:=@s_block Try.prog 44 V10 c10_4 c10_5 0 (by kernel_rfl)
noncomputable def c10_3_s:=@s_reg Try.prog 44 V10 c10_3 c10_4 1 o10_1 (fun N M G k e w =>
    M (Value.int IntKind.i64 0) fun t3 =>
    k (Env.p e 3 t3) w) (by kernel_rfl) (by intros; kernel_rfl)
noncomputable def c10_1_s:=@s_seq Try.prog 44 V10 c10_1 c10_2 c10_3 (by kernel_rfl)
noncomputable def c10_s:=@s_reg Try.prog 44 V10 c10 c10_1 0 o10_0 (fun N M G k e w =>
    M (Value.bool false) fun t2 =>
    k (Env.p e 2 t2) w) (by kernel_rfl) (by intros; kernel_rfl)
theorem call10 {a0 : Value} {w : World} {R : Value → World → Prop} (h : W3 Try.prog 44 V10 c10 (retQ Try.prog [.tmp 2] R) (argE [a0]) w) : CallsN Try.prog 10 [a0] w R :=
  callsN_of_W3 (c := c10) (rs := [.tmp 2]) V10 Try.ntmps10 (by rw [Try.results10]) mixed Try.func10 (by kernel_rfl) (by kernel_rfl) (by kernel_rfl) (by kernel_rfl) (by simp) h
noncomputable def w3t_10:=w3t Try.prog 44 V10
noncomputable def hk10 := And.intro @c10_2_s <| And.intro @c10_8_s <| And.intro @c10_13_s <| And.intro @c10_12_s <| And.intro @c10_11_s <| And.intro @c10_10_s <| And.intro @c10_9_s <| And.intro @c10_7_s <| And.intro @c10_15_s <| And.intro @c10_14_s <| And.intro @c10_6_s <| And.intro @c10_5_s <| And.intro @c10_4_s <| And.intro @c10_3_s <| And.intro @c10_1_s <| And.intro @c10_s <| @w3t_10
-- K10: ↓hk10
end
end Go.Proofs.Ytgloomahpjpiiaa
