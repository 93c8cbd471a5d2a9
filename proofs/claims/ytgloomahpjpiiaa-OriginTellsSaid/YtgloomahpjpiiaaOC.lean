/- The equations of the code of some functions, written by the printer gen3.py: each is checked by the kernel. -/
import Derived.Test.YtgloomahpjpiiaaQ0
import Derived.Test.YtgloomahpjpiiaaCI
set_option linter.unusedVariables false
set_option linter.unusedSimpArgs false
set_option maxRecDepth 100000
namespace Go.Proofs.Ytgloomahpjpiiaa
open Go.VW
noncomputable section
set_option linter.defProp false
variable {N : NT} {T : T3T} {M : MT} {G : GT} {H : HT} {Y : YT} {k : KT} {Q : Exit → Env → World → Prop} {e el eg : Env} {w u0 u1 u2 u3 u4 u5 u6 u7 u8 u9 : World}
/-! ### vouch/codec.Check -/
def V20 : Nat → Bool := fun i => [0, 1, 2, 3, 8].elem i
noncomputable def c20:Code:=(Try.f20.body.getD .skip)
noncomputable def o20_0:Array Oper:=rO (cL c20)
noncomputable def c20_1:Code:=(cR c20)
noncomputable def c20_2:Code:=(cR c20_1)
noncomputable def o20_5:Array Oper:=rO (cL c20_2)
noncomputable def c20_3:Code:=(cL c20_1)
noncomputable def c20_4:Code:=(cL c20_3)
noncomputable def o20_1:Array Oper:=rO (cL c20_4)
noncomputable def c20_5:Code:=(cR c20_4)
noncomputable def c20_6:Code:=(cL c20_5)
noncomputable def o20_2:Array Oper:=rO (cL c20_6)
noncomputable def c20_7:Code:=(cR c20_5)
noncomputable def o20_3:Array Oper:=rO (cL c20_7)
noncomputable def c20_8:Code:=(cR c20_7)
noncomputable def c20_9:Code:=(cL c20_8)
noncomputable def o20_4:Array Oper:=rO (cL c20_9)
noncomputable def c20_2_s:=@s_reg Try.prog 22 V20 c20_2 .ret 5 o20_5 (fun N M G k e w =>
    M (Value.int IntKind.i64 0) fun t2 =>
    k (Env.p e 2 t2) w) (by kernel_rfl) (by intros; kernel_rfl)
noncomputable def c20_6_s:=@s_reg Try.prog 22 V20 c20_6 .ret 2 o20_2 (fun N M G k e w =>
    M (Value.int IntKind.i64 13) fun t2 =>
    k (Env.p e 2 t2) w) (by kernel_rfl) (by intros; kernel_rfl)
noncomputable def c20_9_s:=@s_reg Try.prog 22 V20 c20_9 .ret 4 o20_4 (fun N M G k e w =>
    M (Value.int IntKind.i64 1) fun t2 =>
    k (Env.p e 2 t2) w) (by kernel_rfl) (by intros; kernel_rfl)
noncomputable def c20_8_s:=@s_cond Try.prog 22 V20 c20_8 .skip 8 c20_9 (by kernel_rfl) (by kernel_rfl)
noncomputable def c20_7_s:=@s_reg Try.prog 22 V20 c20_7 c20_8 3 o20_3 (fun N M G k e w =>
    N (xv (Instr.loadAt 40 (e 1))) w fun t9 w =>
    N (xcall (Value.func (Fn.func 33) #[] #[]) [t9]) w fun t10 w =>
    N (xv (Op.unary UnOp.not t10)) w fun t11 w =>
    M t11 fun t12 =>
    G (isB t12 false) (fun K => N (xv (Instr.loadAt 40 (e 1))) w K) (fun t13 w =>
    G (isB t12 false) (fun K => N (xcall (Value.func (Fn.func 34) #[] #[]) [t13]) w K) (fun t14 w =>
    G (isB t12 false) (fun K => N (xv (Op.unary UnOp.not t14)) w K) (fun t15 w =>
    N (xpick t12 (Value.bool true) t15) w fun t16 w =>
    M t16 fun t17 =>
    G (isB t17 false) (fun K => N (xv (Instr.loadAt 40 (e 1))) w K) (fun t18 w =>
    G (isB t17 false) (fun K => N (xcall (Value.func (Fn.func 35) #[] #[]) [t18]) w K) (fun t19 w =>
    G (isB t17 false) (fun K => N (xv (Op.unary UnOp.not t19)) w K) (fun t20 w =>
    N (xpick t17 (Value.bool true) t20) w fun t21 w =>
    M t21 fun t8 =>
    k (Env.p e 8 t8) w) w) w) w) w) w) w) (by kernel_rfl) (by intros; kernel_rfl)
noncomputable def c20_5_s:=@s_cond Try.prog 22 V20 c20_5 c20_7 3 c20_6 (by kernel_rfl) (by kernel_rfl)
noncomputable def c20_4_s:=@s_reg Try.prog 22 V20 c20_4 c20_5 1 o20_1 (fun N M G k e w =>
    N (xv (Instr.fieldAt 40 (e 1) 0)) w fun t4 w =>
    N (xv (Instr.loadAt 3 t4)) w fun t5 w =>
    N (xcall (Value.func (Fn.func 32) #[] #[]) [t5]) w fun t6 w =>
    N (xv (Op.unary UnOp.not t6)) w fun t7 w =>
    M t7 fun t3 =>
    k (Env.p e 3 t3) w) (by kernel_rfl) (by intros; kernel_rfl)
noncomputable def c20_3_s:=@s_block Try.prog 22 V20 c20_3 c20_4 0 (by kernel_rfl)
noncomputable def c20_1_s:=@s_seq Try.prog 22 V20 c20_1 c20_2 c20_3 (by kernel_rfl)
noncomputable def c20_s:=@s_reg Try.prog 22 V20 c20 c20_1 0 o20_0 (fun N M G k e w =>
    N (xv (Instr.box 40 (e 0))) w fun t1 w =>
    M (Value.int IntKind.i64 0) fun t2 =>
    k (Env.p (Env.p e 1 t1) 2 t2) w) (by kernel_rfl) (by intros; kernel_rfl)
theorem call20 {a0 : Value} {w : World} {R : Value → World → Prop} (h : W3 Try.prog 22 V20 c20 (retQ Try.prog [.tmp 2] R) (argE [a0]) w) : CallsN Try.prog 20 [a0] w R :=
  callsN_of_W3 (c := c20) (rs := [.tmp 2]) V20 Try.ntmps20 (by rw [Try.results20]) mixed Try.func20 (by kernel_rfl) (by kernel_rfl) (by kernel_rfl) (by kernel_rfl) (by simp) h
noncomputable def w3t_20:=w3t Try.prog 22 V20
noncomputable def hk20 := And.intro @c20_2_s <| And.intro @c20_6_s <| And.intro @c20_9_s <| And.intro @c20_8_s <| And.intro @c20_7_s <| And.intro @c20_5_s <| And.intro @c20_4_s <| And.intro @c20_3_s <| And.intro @c20_1_s <| And.intro @c20_s <| @w3t_20
-- K20: ↓hk20
/-! ### vouch/codec.known -/
def V32 : Nat → Bool := fun i => [0, 2].elem i
noncomputable def c32:Code:=(Try.f32.body.getD .skip)
noncomputable def o32_0:Array Oper:=rO (cL c32)
noncomputable def c32_1:Code:=(cR c32)
noncomputable def o32_1:Array Oper:=rO (cL c32_1)
noncomputable def c32_1_s:=@s_reg Try.prog 9 V32 c32_1 .ret 1 o32_1 (fun N M G k e w =>
    M (e 0) fun t3 =>
    N (xv (xbin BinOp.geq 3 (Operand.tmp 3) (Operand.const (Value.int IntKind.i64 1)) t3 (Value.int IntKind.i64 1))) w fun t4 w =>
    M t4 fun t5 =>
    G (isB t5 true) (fun K => M (e 0) fun v => K v w) (fun t6 w =>
    G (isB t5 true) (fun K => N (xv (xbin BinOp.leq 3 (Operand.tmp 6) (Operand.const (Value.int IntKind.i64 11)) t6 (Value.int IntKind.i64 11))) w K) (fun t7 w =>
    N (xpick t5 t7 (Value.bool false)) w fun t8 w =>
    M t8 fun t2 =>
    k (Env.p e 2 t2) w) w) w) (by kernel_rfl) (by intros; kernel_rfl)
noncomputable def c32_s:=@s_reg Try.prog 9 V32 c32 c32_1 0 o32_0 (fun N M G k e w =>
    M (Value.bool false) fun t2 =>
    k (Env.p e 2 t2) w) (by kernel_rfl) (by intros; kernel_rfl)
theorem call32 {a0 : Value} {w : World} {R : Value → World → Prop} (h : W3 Try.prog 9 V32 c32 (retQ Try.prog [.tmp 2] R) (argE [a0]) w) : CallsN Try.prog 32 [a0] w R :=
  callsN_of_W3 (c := c32) (rs := [.tmp 2]) V32 Try.ntmps32 (by rw [Try.results32]) mixed Try.func32 (by kernel_rfl) (by kernel_rfl) (by kernel_rfl) (by kernel_rfl) (by simp) h
noncomputable def w3t_32:=w3t Try.prog 9 V32
noncomputable def hk32 := And.intro @c32_1_s <| And.intro @c32_s <| @w3t_32
-- K32: ↓hk32
/-! ### vouch/codec.unused -/
def V33 : Nat → Bool := fun i => [0, 1, 2, 3].elem i
noncomputable def c33:Code:=(Try.f33.body.getD .skip)
noncomputable def o33_0:Array Oper:=rO (cL c33)
noncomputable def c33_1:Code:=(cR c33)
noncomputable def o33_1:Array Oper:=rO (cL c33_1)
noncomputable def c33_2:Code:=(cR c33_1)
noncomputable def o33_2:Array Oper:=rO (cL c33_2)
noncomputable def c33_2_s:=@s_reg Try.prog 73 V33 c33_2 .ret 2 o33_2 (fun N M G k e w =>
    N (xv (Instr.fieldAt 40 (e 3) 1)) w fun t6 w =>
    N (xv (Instr.loadAt 3 t6)) w fun t7 w =>
    N (xv (xbin BinOp.eql 3 (Operand.tmp 7) (Operand.const (Value.int IntKind.i64 0)) t7 (Value.int IntKind.i64 0))) w fun t8 w =>
    M t8 fun t9 =>
    G (isB t9 true) (fun K => N (xv (Instr.fieldAt 40 (e 3) 2)) w K) (fun t10 w =>
    G (isB t9 true) (fun K => N (xv (Instr.loadAt 3 t10)) w K) (fun t11 w =>
    G (isB t9 true) (fun K => N (xv (xbin BinOp.eql 3 (Operand.tmp 11) (Operand.const (Value.int IntKind.i64 0)) t11 (Value.int IntKind.i64 0))) w K) (fun t12 w =>
    N (xpick t9 t12 (Value.bool false)) w fun t13 w =>
    M t13 fun t14 =>
    G (isB t14 true) (fun K => N (xv (Instr.fieldAt 40 (e 3) 3)) w K) (fun t15 w =>
    G (isB t14 true) (fun K => N (xv (Instr.loadAt 3 t15)) w K) (fun t16 w =>
    G (isB t14 true) (fun K => N (xv (xbin BinOp.eql 3 (Operand.tmp 16) (Operand.const (Value.int IntKind.i64 0)) t16 (Value.int IntKind.i64 0))) w K) (fun t17 w =>
    N (xpick t14 t17 (Value.bool false)) w fun t18 w =>
    M t18 fun t19 =>
    G (isB t19 true) (fun K => N (xv (Instr.fieldAt 40 (e 3) 4)) w K) (fun t20 w =>
    G (isB t19 true) (fun K => N (xv (Instr.loadAt 3 t20)) w K) (fun t21 w =>
    G (isB t19 true) (fun K => N (xv (xbin BinOp.eql 3 (Operand.tmp 21) (Operand.const (Value.int IntKind.i64 0)) t21 (Value.int IntKind.i64 0))) w K) (fun t22 w =>
    N (xpick t19 t22 (Value.bool false)) w fun t23 w =>
    M t23 fun t24 =>
    G (isB t24 true) (fun K => N (xv (Instr.fieldAt 40 (e 3) 5)) w K) (fun t25 w =>
    G (isB t24 true) (fun K => N (xv (Instr.loadAt 3 t25)) w K) (fun t26 w =>
    G (isB t24 true) (fun K => N (xv (xbin BinOp.eql 3 (Operand.tmp 26) (Operand.const (Value.int IntKind.i64 0)) t26 (Value.int IntKind.i64 0))) w K) (fun t27 w =>
    N (xpick t24 t27 (Value.bool false)) w fun t28 w =>
    M t28 fun t29 =>
    G (isB t29 true) (fun K => N (xv (Instr.fieldAt 40 (e 3) 6)) w K) (fun t30 w =>
    G (isB t29 true) (fun K => N (xv (Instr.loadAt 9 t30)) w K) (fun t31 w =>
    G (isB t29 true) (fun K => N (xv (xbin BinOp.eql 9 (Operand.tmp 31) (Operand.const (Value.string ⟨#[]⟩)) t31 (Value.string ⟨#[]⟩))) w K) (fun t32 w =>
    N (xpick t29 t32 (Value.bool false)) w fun t33 w =>
    M t33 fun t34 =>
    G (isB t34 true) (fun K => N (xv (Instr.fieldAt 40 (e 3) 7)) w K) (fun t35 w =>
    G (isB t34 true) (fun K => N (xv (Instr.loadAt 33 t35)) w K) (fun t36 w =>
    G (isB t34 true) (fun K => N (xv (Instr.build 33 ([]).toArray)) w K) (fun t37 w =>
    G (isB t34 true) (fun K => N (xv (xbin BinOp.eql 33 (Operand.tmp 36) (Operand.tmp 37) t36 t37)) w K) (fun t38 w =>
    N (xpick t34 t38 (Value.bool false)) w fun t39 w =>
    M t39 fun t40 =>
    G (isB t40 true) (fun K => N (xv (Instr.fieldAt 40 (e 3) 8)) w K) (fun t41 w =>
    G (isB t40 true) (fun K => N (xv (Instr.loadAt 35 t41)) w K) (fun t42 w =>
    G (isB t40 true) (fun K => N (xv (Instr.build 35 ([]).toArray)) w K) (fun t43 w =>
    G (isB t40 true) (fun K => N (xv (xbin BinOp.eql 35 (Operand.tmp 42) (Operand.tmp 43) t42 t43)) w K) (fun t44 w =>
    N (xpick t40 t44 (Value.bool false)) w fun t45 w =>
    M t45 fun t46 =>
    G (isB t46 true) (fun K => N (xv (Instr.fieldAt 40 (e 3) 9)) w K) (fun t47 w =>
    G (isB t46 true) (fun K => N (xv (Instr.loadAt 4 t47)) w K) (fun t48 w =>
    G (isB t46 true) (fun K => N (xv (Op.unary UnOp.not t48)) w K) (fun t49 w =>
    N (xpick t46 t49 (Value.bool false)) w fun t50 w =>
    M t50 fun t51 =>
    G (isB t51 true) (fun K => N (xv (Instr.fieldAt 40 (e 3) 10)) w K) (fun t52 w =>
    G (isB t51 true) (fun K => N (xv (Instr.loadAt 36 t52)) w K) (fun t53 w =>
    G (isB t51 true) (fun K => N (xv (xbin BinOp.eql 36 (Operand.tmp 53) (Operand.const (Value.int IntKind.i64 0)) t53 (Value.int IntKind.i64 0))) w K) (fun t54 w =>
    N (xpick t51 t54 (Value.bool false)) w fun t55 w =>
    M t55 fun t56 =>
    G (isB t56 true) (fun K => N (xv (Instr.fieldAt 40 (e 3) 11)) w K) (fun t57 w =>
    G (isB t56 true) (fun K => N (xv (Instr.loadAt 2 t57)) w K) (fun t58 w =>
    G (isB t56 true) (fun K => N (xv (xbin BinOp.eql 2 (Operand.tmp 58) (Operand.const (Value.int IntKind.i64 0)) t58 (Value.int IntKind.i64 0))) w K) (fun t59 w =>
    N (xpick t56 t59 (Value.bool false)) w fun t60 w =>
    M t60 fun t61 =>
    G (isB t61 true) (fun K => N (xv (Instr.fieldAt 40 (e 3) 12)) w K) (fun t62 w =>
    G (isB t61 true) (fun K => N (xv (Instr.loadAt 37 t62)) w K) (fun t63 w =>
    G (isB t61 true) (fun K => N (builtin Builtin.len #[37] 3 ([false]).toArray ([t63]).toArray) w K) (fun t64 w =>
    G (isB t61 true) (fun K => N (xv (xbin BinOp.eql 3 (Operand.tmp 64) (Operand.const (Value.int IntKind.i64 0)) t64 (Value.int IntKind.i64 0))) w K) (fun t65 w =>
    N (xpick t61 t65 (Value.bool false)) w fun t66 w =>
    M t66 fun t67 =>
    G (isB t67 true) (fun K => N (xv (Instr.fieldAt 40 (e 3) 13)) w K) (fun t68 w =>
    G (isB t67 true) (fun K => N (xv (Instr.loadAt 38 t68)) w K) (fun t69 w =>
    G (isB t67 true) (fun K => N (builtin Builtin.len #[38] 3 ([false]).toArray ([t69]).toArray) w K) (fun t70 w =>
    G (isB t67 true) (fun K => N (xv (xbin BinOp.eql 3 (Operand.tmp 70) (Operand.const (Value.int IntKind.i64 0)) t70 (Value.int IntKind.i64 0))) w K) (fun t71 w =>
    N (xpick t67 t71 (Value.bool false)) w fun t72 w =>
    M t72 fun t2 =>
    k (Env.p e 2 t2) w) w) w) w) w) w) w) w) w) w) w) w) w) w) w) w) w) w) w) w) w) w) w) w) w) w) w) w) w) w) w) w) w) w) w) w) w) w) w) w) w) (by kernel_rfl) (by intros; kernel_rfl)
noncomputable def c33_1_s:=@s_reg Try.prog 73 V33 c33_1 c33_2 1 o33_1 (fun N M G k e w =>
    N (xv (Instr.loadAt 40 (e 1))) w fun t4 w =>
    N (xcall (Value.func (Fn.func 49) #[] #[]) [t4]) w fun t5 w =>
    N (xv (Instr.alloc 40 true (.tuple #[]))) w fun t3 w =>
    N (xu (Instr.storeAt 40 t3 t5)) w fun _ w =>
    k (Env.p e 3 t3) w) (by kernel_rfl) (by intros; kernel_rfl)
noncomputable def c33_s:=@s_reg Try.prog 73 V33 c33 c33_1 0 o33_0 (fun N M G k e w =>
    N (xv (Instr.box 40 (e 0))) w fun t1 w =>
    M (Value.bool false) fun t2 =>
    k (Env.p (Env.p e 1 t1) 2 t2) w) (by kernel_rfl) (by intros; kernel_rfl)
theorem call33 {a0 : Value} {w : World} {R : Value → World → Prop} (h : W3 Try.prog 73 V33 c33 (retQ Try.prog [.tmp 2] R) (argE [a0]) w) : CallsN Try.prog 33 [a0] w R :=
  callsN_of_W3 (c := c33) (rs := [.tmp 2]) V33 Try.ntmps33 (by rw [Try.results33]) mixed Try.func33 (by kernel_rfl) (by kernel_rfl) (by kernel_rfl) (by kernel_rfl) (by simp) h
noncomputable def w3t_33:=w3t Try.prog 73 V33
noncomputable def hk33 := And.intro @c33_2_s <| And.intro @c33_1_s <| And.intro @c33_s <| @w3t_33
-- K33: ↓hk33
/-! ### vouch/codec.numbers -/
def V34 : Nat → Bool := fun i => [0, 1, 2, 3, 4, 5, 6, 22, 32].elem i
noncomputable def c34:Code:=(Try.f34.body.getD .skip)
noncomputable def o34_0:Array Oper:=rO (cL c34)
noncomputable def c34_1:Code:=(cR c34)
noncomputable def o34_1:Array Oper:=rO (cL c34_1)
noncomputable def c34_2:Code:=(cR c34_1)
noncomputable def c34_3:Code:=(cR c34_2)
noncomputable def c34_4:Code:=(cR c34_3)
noncomputable def o34_6:Array Oper:=rO (cL c34_4)
noncomputable def c34_5:Code:=(cR c34_4)
noncomputable def o34_7:Array Oper:=rO (cL c34_5)
noncomputable def c34_6:Code:=(cR c34_5)
noncomputable def o34_8:Array Oper:=rO (cL c34_6)
noncomputable def c34_7:Code:=(cR c34_6)
noncomputable def o34_9:Array Oper:=rO (cL c34_7)
noncomputable def c34_8:Code:=(cL c34_3)
noncomputable def o34_4:Array Oper:=rO (cL c34_8)
noncomputable def c34_9:Code:=(cR c34_8)
noncomputable def c34_10:Code:=(cL c34_9)
noncomputable def o34_5:Array Oper:=rO (cL c34_10)
noncomputable def c34_11:Code:=(cL c34_2)
noncomputable def o34_2:Array Oper:=rO (cL c34_11)
noncomputable def c34_12:Code:=(cR c34_11)
noncomputable def c34_13:Code:=(cL c34_12)
noncomputable def o34_3:Array Oper:=rO (cL c34_13)
noncomputable def c34_7_s:=@s_reg Try.prog 79 V34 c34_7 .ret 9 o34_9 (fun N M G k e w =>
    M (e 4) fun t52 =>
    N (xv (Op.unary UnOp.not t52)) w fun t53 w =>
    M t53 fun t54 =>
    G (isB t54 false) (fun K => N (xv (Instr.fieldAt 40 (e 1) 5)) w K) (fun t55 w =>
    G (isB t54 false) (fun K => N (xv (Instr.loadAt 3 t55)) w K) (fun t56 w =>
    G (isB t54 false) (fun K => M (e 3) fun v => K v w) (fun t57 w =>
    G (isB t54 false) (fun K => N (xcall (Value.func (Fn.func 50) #[] #[]) [t56, (Value.int IntKind.i64 1), t57]) w K) (fun t58 w =>
    N (xpick t54 (Value.bool true) t58) w fun t59 w =>
    M t59 fun t60 =>
    G (isB t60 true) (fun K => M (e 5) fun v => K v w) (fun t61 w =>
    G (isB t60 true) (fun K => N (xv (Op.unary UnOp.not t61)) w K) (fun t62 w =>
    G (isB t60 true) (fun K => M t62 fun v => K v w) (fun t63 w =>
    G (isB t63 false) (fun K => N (xv (Instr.fieldAt 40 (e 1) 2)) w K) (fun t64 w =>
    G (isB t63 false) (fun K => N (xv (Instr.loadAt 3 t64)) w K) (fun t65 w =>
    G (isB t63 false) (fun K => M (e 3) fun v => K v w) (fun t66 w =>
    G (isB t63 false) (fun K => N (xcall (Value.func (Fn.func 50) #[] #[]) [t65, (Value.int IntKind.i64 1), t66]) w K) (fun t67 w =>
    G (isB t60 true) (fun K => N (xpick t63 (Value.bool true) t67) w K) (fun t68 w =>
    N (xpick t60 t68 (Value.bool false)) w fun t69 w =>
    M t69 fun t70 =>
    G (isB t70 true) (fun K => M (e 6) fun v => K v w) (fun t71 w =>
    G (isB t70 true) (fun K => N (xv (Op.unary UnOp.not t71)) w K) (fun t72 w =>
    G (isB t70 true) (fun K => M t72 fun v => K v w) (fun t73 w =>
    G (isB t73 false) (fun K => N (xv (Instr.fieldAt 40 (e 1) 11)) w K) (fun t74 w =>
    G (isB t73 false) (fun K => N (xv (Instr.loadAt 2 t74)) w K) (fun t75 w =>
    G (isB t73 false) (fun K => N (xv (xbin BinOp.geq 2 (Operand.tmp 75) (Operand.const (Value.int IntKind.i64 1)) t75 (Value.int IntKind.i64 1))) w K) (fun t76 w =>
    G (isB t70 true) (fun K => N (xpick t73 (Value.bool true) t76) w K) (fun t77 w =>
    N (xpick t70 t77 (Value.bool false)) w fun t78 w =>
    M t78 fun t2 =>
    k (Env.p e 2 t2) w) w) w) w) w) w) w) w) w) w) w) w) w) w) w) w) w) w) w) w) (by kernel_rfl) (by intros; kernel_rfl)
noncomputable def c34_6_s:=@s_reg Try.prog 79 V34 c34_6 c34_7 8 o34_8 (fun N M G k e w =>
    N (xv (Instr.fieldAt 40 (e 1) 0)) w fun t44 w =>
    N (xv (Instr.loadAt 3 t44)) w fun t45 w =>
    N (xv (xbin BinOp.eql 3 (Operand.tmp 45) (Operand.const (Value.int IntKind.i64 8)) t45 (Value.int IntKind.i64 8))) w fun t46 w =>
    M t46 fun t47 =>
    G (isB t47 false) (fun K => N (xv (Instr.fieldAt 40 (e 1) 0)) w K) (fun t48 w =>
    G (isB t47 false) (fun K => N (xv (Instr.loadAt 3 t48)) w K) (fun t49 w =>
    G (isB t47 false) (fun K => N (xv (xbin BinOp.eql 3 (Operand.tmp 49) (Operand.const (Value.int IntKind.i64 9)) t49 (Value.int IntKind.i64 9))) w K) (fun t50 w =>
    N (xpick t47 (Value.bool true) t50) w fun t51 w =>
    M t51 fun t6 =>
    k (Env.p e 6 t6) w) w) w) w) (by kernel_rfl) (by intros; kernel_rfl)
noncomputable def c34_5_s:=@s_reg Try.prog 79 V34 c34_5 c34_6 7 o34_7 (fun N M G k e w =>
    N (xv (Instr.fieldAt 40 (e 1) 0)) w fun t36 w =>
    N (xv (Instr.loadAt 3 t36)) w fun t37 w =>
    N (xv (xbin BinOp.eql 3 (Operand.tmp 37) (Operand.const (Value.int IntKind.i64 10)) t37 (Value.int IntKind.i64 10))) w fun t38 w =>
    M t38 fun t39 =>
    G (isB t39 false) (fun K => N (xv (Instr.fieldAt 40 (e 1) 0)) w K) (fun t40 w =>
    G (isB t39 false) (fun K => N (xv (Instr.loadAt 3 t40)) w K) (fun t41 w =>
    G (isB t39 false) (fun K => N (xv (xbin BinOp.eql 3 (Operand.tmp 41) (Operand.const (Value.int IntKind.i64 11)) t41 (Value.int IntKind.i64 11))) w K) (fun t42 w =>
    N (xpick t39 (Value.bool true) t42) w fun t43 w =>
    M t43 fun t5 =>
    k (Env.p e 5 t5) w) w) w) w) (by kernel_rfl) (by intros; kernel_rfl)
noncomputable def c34_4_s:=@s_reg Try.prog 79 V34 c34_4 c34_5 6 o34_6 (fun N M G k e w =>
    N (xv (Instr.fieldAt 40 (e 1) 0)) w fun t33 w =>
    N (xv (Instr.loadAt 3 t33)) w fun t34 w =>
    N (xv (xbin BinOp.leq 3 (Operand.tmp 34) (Operand.const (Value.int IntKind.i64 6)) t34 (Value.int IntKind.i64 6))) w fun t35 w =>
    M t35 fun t4 =>
    k (Env.p e 4 t4) w) (by kernel_rfl) (by intros; kernel_rfl)
noncomputable def c34_10_s:=@s_reg Try.prog 79 V34 c34_10 .ret 5 o34_5 (fun N M G k e w =>
    M (Value.bool false) fun t2 =>
    k (Env.p e 2 t2) w) (by kernel_rfl) (by intros; kernel_rfl)
noncomputable def c34_9_s:=@s_cond Try.prog 79 V34 c34_9 .skip 32 c34_10 (by kernel_rfl) (by kernel_rfl)
noncomputable def c34_8_s:=@s_reg Try.prog 79 V34 c34_8 c34_9 4 o34_4 (fun N M G k e w =>
    N (xv (Instr.fieldAt 40 (e 1) 10)) w fun t23 w =>
    N (xv (Instr.loadAt 36 t23)) w fun t24 w =>
    N (xcall (Value.func (Fn.func 50) #[] #[]) [t24, (Value.int IntKind.i64 0), (Value.int IntKind.i64 255)]) w fun t25 w =>
    N (xv (Op.unary UnOp.not t25)) w fun t26 w =>
    M t26 fun t27 =>
    G (isB t27 false) (fun K => N (xv (Instr.fieldAt 40 (e 1) 11)) w K) (fun t28 w =>
    G (isB t27 false) (fun K => N (xv (Instr.loadAt 2 t28)) w K) (fun t29 w =>
    G (isB t27 false) (fun K => N (xcall (Value.func (Fn.func 50) #[] #[]) [t29, (Value.int IntKind.i64 0), (Value.int IntKind.i64 1099511627776)]) w K) (fun t30 w =>
    G (isB t27 false) (fun K => N (xv (Op.unary UnOp.not t30)) w K) (fun t31 w =>
    N (xpick t27 (Value.bool true) t31) w fun t32 w =>
    k (Env.p e 32 t32) w) w) w) w) w) (by kernel_rfl) (by intros; kernel_rfl)
noncomputable def c34_3_s:=@s_seq Try.prog 79 V34 c34_3 c34_4 c34_8 (by kernel_rfl)
noncomputable def c34_13_s:=@s_reg Try.prog 79 V34 c34_13 .ret 3 o34_3 (fun N M G k e w =>
    M (Value.bool false) fun t2 =>
    k (Env.p e 2 t2) w) (by kernel_rfl) (by intros; kernel_rfl)
noncomputable def c34_12_s:=@s_cond Try.prog 79 V34 c34_12 .skip 22 c34_13 (by kernel_rfl) (by kernel_rfl)
noncomputable def c34_11_s:=@s_reg Try.prog 79 V34 c34_11 c34_12 2 o34_2 (fun N M G k e w =>
    N (xv (Instr.fieldAt 40 (e 1) 1)) w fun t7 w =>
    N (xv (Instr.loadAt 3 t7)) w fun t8 w =>
    N (xcall (Value.func (Fn.func 50) #[] #[]) [t8, (Value.int IntKind.i64 0), (Value.int IntKind.i64 7)]) w fun t9 w =>
    N (xv (Op.unary UnOp.not t9)) w fun t10 w =>
    M t10 fun t11 =>
    G (isB t11 false) (fun K => N (xv (Instr.fieldAt 40 (e 1) 3)) w K) (fun t12 w =>
    G (isB t11 false) (fun K => N (xv (Instr.loadAt 3 t12)) w K) (fun t13 w =>
    G (isB t11 false) (fun K => N (xcall (Value.func (Fn.func 50) #[] #[]) [t13, (Value.int IntKind.i64 0), (Value.int IntKind.i64 63)]) w K) (fun t14 w =>
    G (isB t11 false) (fun K => N (xv (Op.unary UnOp.not t14)) w K) (fun t15 w =>
    N (xpick t11 (Value.bool true) t15) w fun t16 w =>
    M t16 fun t17 =>
    G (isB t17 false) (fun K => N (xv (Instr.fieldAt 40 (e 1) 4)) w K) (fun t18 w =>
    G (isB t17 false) (fun K => N (xv (Instr.loadAt 3 t18)) w K) (fun t19 w =>
    G (isB t17 false) (fun K => N (xcall (Value.func (Fn.func 50) #[] #[]) [t19, (Value.int IntKind.i64 0), (Value.int IntKind.i64 255)]) w K) (fun t20 w =>
    G (isB t17 false) (fun K => N (xv (Op.unary UnOp.not t20)) w K) (fun t21 w =>
    N (xpick t17 (Value.bool true) t21) w fun t22 w =>
    k (Env.p e 22 t22) w) w) w) w) w) w) w) w) w) (by kernel_rfl) (by intros; kernel_rfl)
noncomputable def c34_2_s:=@s_seq Try.prog 79 V34 c34_2 c34_3 c34_11 (by kernel_rfl)
noncomputable def c34_1_s:=@s_reg Try.prog 79 V34 c34_1 c34_2 1 o34_1 (fun N M G k e w =>
    M (Value.int IntKind.i64 2147483647) fun t3 =>
    k (Env.p e 3 t3) w) (by kernel_rfl) (by intros; kernel_rfl)
noncomputable def c34_s:=@s_reg Try.prog 79 V34 c34 c34_1 0 o34_0 (fun N M G k e w =>
    N (xv (Instr.box 40 (e 0))) w fun t1 w =>
    M (Value.bool false) fun t2 =>
    k (Env.p (Env.p e 1 t1) 2 t2) w) (by kernel_rfl) (by intros; kernel_rfl)
theorem call34 {a0 : Value} {w : World} {R : Value → World → Prop} (h : W3 Try.prog 79 V34 c34 (retQ Try.prog [.tmp 2] R) (argE [a0]) w) : CallsN Try.prog 34 [a0] w R :=
  callsN_of_W3 (c := c34) (rs := [.tmp 2]) V34 Try.ntmps34 (by rw [Try.results34]) mixed Try.func34 (by kernel_rfl) (by kernel_rfl) (by kernel_rfl) (by kernel_rfl) (by simp) h
noncomputable def w3t_34:=w3t Try.prog 79 V34
noncomputable def hk34 := And.intro @c34_7_s <| And.intro @c34_6_s <| And.intro @c34_5_s <| And.intro @c34_4_s <| And.intro @c34_10_s <| And.intro @c34_9_s <| And.intro @c34_8_s <| And.intro @c34_3_s <| And.intro @c34_13_s <| And.intro @c34_12_s <| And.intro @c34_11_s <| And.intro @c34_2_s <| And.intro @c34_1_s <| And.intro @c34_s <| @w3t_34
-- K34: ↓hk34
/-! ### vouch/codec.things -/
def V35 : Nat → Bool := fun i => [0, 1, 2, 3, 4, 5, 7, 8, 21, 32, 47, 74].elem i
noncomputable def c35:Code:=(Try.f35.body.getD .skip)
noncomputable def o35_0:Array Oper:=rO (cL c35)
noncomputable def c35_1:Code:=(cR c35)
noncomputable def c35_2:Code:=(cR c35_1)
noncomputable def o35_17:Array Oper:=rO (cL c35_2)
noncomputable def c35_3:Code:=(cL c35_1)
noncomputable def o35_1:Array Oper:=rO (cL c35_3)
noncomputable def c35_4:Code:=(cR c35_3)
noncomputable def c35_5:Code:=(cL c35_4)
noncomputable def o35_2:Array Oper:=rO (cL c35_5)
noncomputable def c35_6:Code:=(cR c35_5)
noncomputable def c35_7:Code:=(cL c35_6)
noncomputable def o35_3:Array Oper:=rO (cL c35_7)
noncomputable def c35_8:Code:=(cR c35_7)
noncomputable def o35_4:Array Oper:=rO (cL c35_8)
noncomputable def c35_9:Code:=(cR c35_6)
noncomputable def c35_10:Code:=(cR c35_9)
noncomputable def c35_11:Code:=(cL c35_10)
noncomputable def o35_7:Array Oper:=rO (cL c35_11)
noncomputable def c35_12:Code:=(cR c35_10)
noncomputable def o35_8:Array Oper:=rO (cL c35_12)
noncomputable def c35_13:Code:=(cR c35_12)
noncomputable def c35_14:Code:=(cL c35_13)
noncomputable def o35_9:Array Oper:=rO (cL c35_14)
noncomputable def c35_15:Code:=(cR c35_13)
noncomputable def c35_16:Code:=(cR c35_15)
noncomputable def c35_17:Code:=(cL c35_16)
noncomputable def o35_12:Array Oper:=rO (cL c35_17)
noncomputable def c35_18:Code:=(cR c35_17)
noncomputable def o35_13:Array Oper:=rO (cL c35_18)
noncomputable def c35_19:Code:=(cR c35_16)
noncomputable def o35_14:Array Oper:=rO (cL c35_19)
noncomputable def c35_20:Code:=(cR c35_19)
noncomputable def c35_21:Code:=(cL c35_20)
noncomputable def o35_15:Array Oper:=rO (cL c35_21)
noncomputable def c35_22:Code:=(cR c35_21)
noncomputable def o35_16:Array Oper:=rO (cL c35_22)
noncomputable def c35_23:Code:=(cL c35_15)
noncomputable def o35_10:Array Oper:=rO (cL c35_23)
noncomputable def c35_24:Code:=(cR c35_23)
noncomputable def c35_25:Code:=(cR c35_24)
noncomputable def o35_11:Array Oper:=rO c35_25
noncomputable def c35_26:Code:=(cL c35_9)
noncomputable def o35_5:Array Oper:=rO (cL c35_26)
noncomputable def c35_27:Code:=(cR c35_26)
noncomputable def c35_28:Code:=(cR c35_27)
noncomputable def o35_6:Array Oper:=rO c35_28
noncomputable def c35_2_s:=@s_reg Try.prog 87 V35 c35_2 .ret 17 o35_17 (fun N M G k e w =>
    M (Value.bool true) fun t2 =>
    k (Env.p e 2 t2) w) (by kernel_rfl) (by intros; kernel_rfl)
noncomputable def c35_8_s:=@s_reg Try.prog 87 V35 c35_8 .ret 4 o35_4 (fun N M G k e w =>
    N (xv (Instr.fieldAt 40 (e 1) 12)) w fun t10 w =>
    N (xv (Instr.loadAt 37 t10)) w fun t11 w =>
    N (builtin Builtin.len #[37] 3 ([false]).toArray ([t11]).toArray) w fun t12 w =>
    N (xcall (Value.func (Fn.func 50) #[] #[]) [t12, (Value.int IntKind.i64 1), (Value.int IntKind.i64 8)]) w fun t13 w =>
    M t13 fun t14 =>
    G (isB t14 true) (fun K => N (xv (Instr.fieldAt 40 (e 1) 12)) w K) (fun t15 w =>
    G (isB t14 true) (fun K => N (xv (Instr.loadAt 37 t15)) w K) (fun t16 w =>
    G (isB t14 true) (fun K => M (e 3) fun v => K v w) (fun t17 w =>
    G (isB t14 true) (fun K => N (xcall (Value.func (Fn.func 54) #[] #[]) [t16, t17]) w K) (fun t18 w =>
    G (isB t14 true) (fun K => N (xv (Op.unary UnOp.not t18)) w K) (fun t19 w =>
    N (xpick t14 t19 (Value.bool false)) w fun t20 w =>
    M t20 fun t2 =>
    k (Env.p e 2 t2) w) w) w) w) w) w) (by kernel_rfl) (by intros; kernel_rfl)
noncomputable def c35_7_s:=@s_reg Try.prog 87 V35 c35_7 c35_8 3 o35_3 (fun N M G k e w =>
    M (Value.func (Fn.func 51) #[] #[]) fun t3 =>
    k (Env.p e 3 t3) w) (by kernel_rfl) (by intros; kernel_rfl)
noncomputable def c35_11_s:=@s_reg Try.prog 87 V35 c35_11 .ret 7 o35_7 (fun N M G k e w =>
    N (xv (Instr.fieldAt 40 (e 1) 6)) w fun t24 w =>
    N (xv (Instr.loadAt 9 t24)) w fun t25 w =>
    N (xcall (Value.func (Fn.func 52) #[] #[]) [t25]) w fun t26 w =>
    M t26 fun t27 =>
    G (isB t27 true) (fun K => N (xv (Instr.fieldAt 40 (e 1) 7)) w K) (fun t28 w =>
    G (isB t27 true) (fun K => N (xv (Instr.loadAt 33 t28)) w K) (fun t29 w =>
    G (isB t27 true) (fun K => N (xcall (Value.func (Fn.func 55) #[] #[]) [t29]) w K) (fun t30 w =>
    N (xpick t27 t30 (Value.bool false)) w fun t31 w =>
    M t31 fun t2 =>
    k (Env.p e 2 t2) w) w) w) w) (by kernel_rfl) (by intros; kernel_rfl)
noncomputable def c35_14_s:=@s_reg Try.prog 87 V35 c35_14 .ret 9 o35_9 (fun N M G k e w =>
    N (xv (Instr.fieldAt 40 (e 1) 6)) w fun t34 w =>
    N (xv (Instr.loadAt 9 t34)) w fun t35 w =>
    N (xcall (Value.func (Fn.func 52) #[] #[]) [t35]) w fun t36 w =>
    M t36 fun t37 =>
    G (isB t37 true) (fun K => N (xv (Instr.fieldAt 40 (e 1) 8)) w K) (fun t38 w =>
    G (isB t37 true) (fun K => N (xv (Instr.loadAt 35 t38)) w K) (fun t39 w =>
    G (isB t37 true) (fun K => N (xcall (Value.func (Fn.func 53) #[] #[]) [t39]) w K) (fun t40 w =>
    N (xpick t37 t40 (Value.bool false)) w fun t41 w =>
    M t41 fun t42 =>
    G (isB t42 true) (fun K => N (xv (Instr.fieldAt 40 (e 1) 7)) w K) (fun t43 w =>
    G (isB t42 true) (fun K => N (xv (Instr.loadAt 33 t43)) w K) (fun t44 w =>
    G (isB t42 true) (fun K => N (xcall (Value.func (Fn.func 55) #[] #[]) [t44]) w K) (fun t45 w =>
    N (xpick t42 t45 (Value.bool false)) w fun t46 w =>
    M t46 fun t2 =>
    k (Env.p e 2 t2) w) w) w) w) w) w) w) (by kernel_rfl) (by intros; kernel_rfl)
noncomputable def c35_18_s:=@s_reg Try.prog 87 V35 c35_18 .ret 13 o35_13 (fun N M G k e w =>
    M (e 4) fun t62 =>
    N (xv (Op.unary UnOp.not t62)) w fun t63 w =>
    M t63 fun t64 =>
    G (isB t64 false) (fun K => N (xv (Instr.fieldAt 40 (e 1) 8)) w K) (fun t65 w =>
    G (isB t64 false) (fun K => N (xv (Instr.loadAt 35 t65)) w K) (fun t66 w =>
    G (isB t64 false) (fun K => N (xcall (Value.func (Fn.func 53) #[] #[]) [t66]) w K) (fun t67 w =>
    G (isB t64 false) (fun K => M t67 fun v => K v w) (fun t68 w =>
    G (isB t68 true) (fun K => N (xv (Instr.fieldAt 40 (e 1) 7)) w K) (fun t69 w =>
    G (isB t68 true) (fun K => N (xv (Instr.loadAt 33 t69)) w K) (fun t70 w =>
    G (isB t68 true) (fun K => N (xcall (Value.func (Fn.func 55) #[] #[]) [t70]) w K) (fun t71 w =>
    G (isB t64 false) (fun K => N (xpick t68 t71 (Value.bool false)) w K) (fun t72 w =>
    N (xpick t64 (Value.bool true) t72) w fun t73 w =>
    M t73 fun t2 =>
    k (Env.p e 2 t2) w) w) w) w) w) w) w) w) w) (by kernel_rfl) (by intros; kernel_rfl)
noncomputable def c35_17_s:=@s_reg Try.prog 87 V35 c35_17 c35_18 12 o35_12 (fun N M G k e w =>
    N (xv (Instr.fieldAt 40 (e 1) 9)) w fun t50 w =>
    N (xv (Instr.loadAt 4 t50)) w fun t51 w =>
    M t51 fun t52 =>
    G (isB t52 false) (fun K => N (xv (Instr.fieldAt 40 (e 1) 0)) w K) (fun t53 w =>
    G (isB t52 false) (fun K => N (xv (Instr.loadAt 3 t53)) w K) (fun t54 w =>
    G (isB t52 false) (fun K => N (xv (xbin BinOp.eql 3 (Operand.tmp 54) (Operand.const (Value.int IntKind.i64 6)) t54 (Value.int IntKind.i64 6))) w K) (fun t55 w =>
    G (isB t52 false) (fun K => M t55 fun v => K v w) (fun t56 w =>
    G (isB t56 true) (fun K => N (xv (Instr.fieldAt 40 (e 1) 10)) w K) (fun t57 w =>
    G (isB t56 true) (fun K => N (xv (Instr.loadAt 36 t57)) w K) (fun t58 w =>
    G (isB t56 true) (fun K => N (xv (xbin BinOp.eql 36 (Operand.tmp 58) (Operand.const (Value.int IntKind.i64 0)) t58 (Value.int IntKind.i64 0))) w K) (fun t59 w =>
    G (isB t52 false) (fun K => N (xpick t56 t59 (Value.bool false)) w K) (fun t60 w =>
    N (xpick t52 (Value.bool true) t60) w fun t61 w =>
    M t61 fun t4 =>
    k (Env.p e 4 t4) w) w) w) w) w) w) w) w) w) (by kernel_rfl) (by intros; kernel_rfl)
noncomputable def c35_22_s:=@s_reg Try.prog 87 V35 c35_22 .ret 16 o35_16 (fun N M G k e w =>
    N (xv (Instr.fieldAt 40 (e 1) 13)) w fun t76 w =>
    N (xv (Instr.loadAt 38 t76)) w fun t77 w =>
    N (builtin Builtin.len #[38] 3 ([false]).toArray ([t77]).toArray) w fun t78 w =>
    N (xcall (Value.func (Fn.func 50) #[] #[]) [t78, (Value.int IntKind.i64 1), (Value.int IntKind.i64 8)]) w fun t79 w =>
    M t79 fun t80 =>
    G (isB t80 true) (fun K => N (xv (Instr.fieldAt 40 (e 1) 13)) w K) (fun t81 w =>
    G (isB t80 true) (fun K => N (xv (Instr.loadAt 38 t81)) w K) (fun t82 w =>
    G (isB t80 true) (fun K => M (e 5) fun v => K v w) (fun t83 w =>
    G (isB t80 true) (fun K => N (xcall (Value.func (Fn.func 57) #[] #[]) [t82, t83]) w K) (fun t84 w =>
    G (isB t80 true) (fun K => N (xv (Op.unary UnOp.not t84)) w K) (fun t85 w =>
    N (xpick t80 t85 (Value.bool false)) w fun t86 w =>
    M t86 fun t2 =>
    k (Env.p e 2 t2) w) w) w) w) w) w) (by kernel_rfl) (by intros; kernel_rfl)
noncomputable def c35_21_s:=@s_reg Try.prog 87 V35 c35_21 c35_22 15 o35_15 (fun N M G k e w =>
    M (Value.func (Fn.func 56) #[] #[]) fun t5 =>
    k (Env.p e 5 t5) w) (by kernel_rfl) (by intros; kernel_rfl)
noncomputable def c35_20_s:=@s_cond Try.prog 87 V35 c35_20 .skip 74 c35_21 (by kernel_rfl) (by kernel_rfl)
noncomputable def c35_19_s:=@s_reg Try.prog 87 V35 c35_19 c35_20 14 o35_14 (fun N M G k e w =>
    N (xv (xbin BinOp.eql 3 (Operand.tmp 7) (Operand.const (Value.int IntKind.i64 8)) (e 7) (Value.int IntKind.i64 8))) w fun t75 w =>
    M t75 fun t74 =>
    k (Env.p e 74 t74) w) (by kernel_rfl) (by intros; kernel_rfl)
noncomputable def c35_16_s:=@s_cond Try.prog 87 V35 c35_16 c35_19 47 c35_17 (by kernel_rfl) (by kernel_rfl)
noncomputable def c35_25_s:=@s_rend Try.prog 87 V35 c35_25 11 o35_11 (fun N M G k e w =>
    N (xv (xbin BinOp.eql 3 (Operand.tmp 7) (Operand.const (Value.int IntKind.i64 6)) (e 7) (Value.int IntKind.i64 6))) w fun t49 w =>
    M t49 fun t47 =>
    k (Env.p e 47 t47) w) (by kernel_rfl) (by intros; kernel_rfl)
noncomputable def c35_24_s:=@s_cond Try.prog 87 V35 c35_24 c35_25 47 .skip (by kernel_rfl) (by kernel_rfl)
noncomputable def c35_23_s:=@s_reg Try.prog 87 V35 c35_23 c35_24 10 o35_10 (fun N M G k e w =>
    N (xv (xbin BinOp.eql 3 (Operand.tmp 7) (Operand.const (Value.int IntKind.i64 4)) (e 7) (Value.int IntKind.i64 4))) w fun t48 w =>
    M t48 fun t47 =>
    k (Env.p e 47 t47) w) (by kernel_rfl) (by intros; kernel_rfl)
noncomputable def c35_15_s:=@s_seq Try.prog 87 V35 c35_15 c35_16 c35_23 (by kernel_rfl)
noncomputable def c35_13_s:=@s_cond Try.prog 87 V35 c35_13 c35_15 32 c35_14 (by kernel_rfl) (by kernel_rfl)
noncomputable def c35_12_s:=@s_reg Try.prog 87 V35 c35_12 c35_13 8 o35_8 (fun N M G k e w =>
    N (xv (xbin BinOp.eql 3 (Operand.tmp 7) (Operand.const (Value.int IntKind.i64 7)) (e 7) (Value.int IntKind.i64 7))) w fun t33 w =>
    M t33 fun t32 =>
    k (Env.p e 32 t32) w) (by kernel_rfl) (by intros; kernel_rfl)
noncomputable def c35_10_s:=@s_cond Try.prog 87 V35 c35_10 c35_12 21 c35_11 (by kernel_rfl) (by kernel_rfl)
noncomputable def c35_28_s:=@s_rend Try.prog 87 V35 c35_28 6 o35_6 (fun N M G k e w =>
    N (xv (xbin BinOp.eql 3 (Operand.tmp 7) (Operand.const (Value.int IntKind.i64 5)) (e 7) (Value.int IntKind.i64 5))) w fun t23 w =>
    M t23 fun t21 =>
    k (Env.p e 21 t21) w) (by kernel_rfl) (by intros; kernel_rfl)
noncomputable def c35_27_s:=@s_cond Try.prog 87 V35 c35_27 c35_28 21 .skip (by kernel_rfl) (by kernel_rfl)
noncomputable def c35_26_s:=@s_reg Try.prog 87 V35 c35_26 c35_27 5 o35_5 (fun N M G k e w =>
    N (xv (xbin BinOp.eql 3 (Operand.tmp 7) (Operand.const (Value.int IntKind.i64 3)) (e 7) (Value.int IntKind.i64 3))) w fun t22 w =>
    M t22 fun t21 =>
    k (Env.p e 21 t21) w) (by kernel_rfl) (by intros; kernel_rfl)
noncomputable def c35_9_s:=@s_seq Try.prog 87 V35 c35_9 c35_10 c35_26 (by kernel_rfl)
noncomputable def c35_6_s:=@s_cond Try.prog 87 V35 c35_6 c35_9 8 c35_7 (by kernel_rfl) (by kernel_rfl)
noncomputable def c35_5_s:=@s_reg Try.prog 87 V35 c35_5 c35_6 2 o35_2 (fun N M G k e w =>
    N (xv (xbin BinOp.eql 3 (Operand.tmp 7) (Operand.const (Value.int IntKind.i64 1)) (e 7) (Value.int IntKind.i64 1))) w fun t9 w =>
    M t9 fun t8 =>
    k (Env.p e 8 t8) w) (by kernel_rfl) (by intros; kernel_rfl)
noncomputable def c35_4_s:=@s_block Try.prog 87 V35 c35_4 c35_5 0 (by kernel_rfl)
noncomputable def c35_3_s:=@s_reg Try.prog 87 V35 c35_3 c35_4 1 o35_1 (fun N M G k e w =>
    N (xv (Instr.fieldAt 40 (e 1) 0)) w fun t6 w =>
    N (xv (Instr.loadAt 3 t6)) w fun t7 w =>
    k (Env.p e 7 t7) w) (by kernel_rfl) (by intros; kernel_rfl)
noncomputable def c35_1_s:=@s_seq Try.prog 87 V35 c35_1 c35_2 c35_3 (by kernel_rfl)
noncomputable def c35_s:=@s_reg Try.prog 87 V35 c35 c35_1 0 o35_0 (fun N M G k e w =>
    N (xv (Instr.box 40 (e 0))) w fun t1 w =>
    M (Value.bool false) fun t2 =>
    k (Env.p (Env.p e 1 t1) 2 t2) w) (by kernel_rfl) (by intros; kernel_rfl)
theorem call35 {a0 : Value} {w : World} {R : Value → World → Prop} (h : W3 Try.prog 87 V35 c35 (retQ Try.prog [.tmp 2] R) (argE [a0]) w) : CallsN Try.prog 35 [a0] w R :=
  callsN_of_W3 (c := c35) (rs := [.tmp 2]) V35 Try.ntmps35 (by rw [Try.results35]) mixed Try.func35 (by kernel_rfl) (by kernel_rfl) (by kernel_rfl) (by kernel_rfl) (by simp) h
noncomputable def w3t_35:=w3t Try.prog 87 V35
noncomputable def hk35 := And.intro @c35_2_s <| And.intro @c35_8_s <| And.intro @c35_7_s <| And.intro @c35_11_s <| And.intro @c35_14_s <| And.intro @c35_18_s <| And.intro @c35_17_s <| And.intro @c35_22_s <| And.intro @c35_21_s <| And.intro @c35_20_s <| And.intro @c35_19_s <| And.intro @c35_16_s <| And.intro @c35_25_s <| And.intro @c35_24_s <| And.intro @c35_23_s <| And.intro @c35_15_s <| And.intro @c35_13_s <| And.intro @c35_12_s <| And.intro @c35_10_s <| And.intro @c35_28_s <| And.intro @c35_27_s <| And.intro @c35_26_s <| And.intro @c35_9_s <| And.intro @c35_6_s <| And.intro @c35_5_s <| And.intro @c35_4_s <| And.intro @c35_3_s <| And.intro @c35_1_s <| And.intro @c35_s <| @w3t_35
-- K35: ↓hk35
/-! ### vouch/codec.things$1 -/
def V51 : Nat → Bool := fun i => [0, 1, 2].elem i
noncomputable def c51:Code:=(Try.f51.body.getD .skip)
noncomputable def o51_0:Array Oper:=rO (cL c51)
noncomputable def c51_1:Code:=(cR c51)
noncomputable def o51_1:Array Oper:=rO (cL c51_1)
noncomputable def c51_1_s:=@s_reg Try.prog 13 V51 c51_1 .ret 1 o51_1 (fun N M G k e w =>
    N (xv (Instr.fieldAt 57 (e 1) 0)) w fun t3 w =>
    N (xv (Instr.loadAt 9 t3)) w fun t4 w =>
    N (xcall (Value.func (Fn.func 52) #[] #[]) [t4]) w fun t5 w =>
    N (xv (Op.unary UnOp.not t5)) w fun t6 w =>
    M t6 fun t7 =>
    G (isB t7 false) (fun K => N (xv (Instr.fieldAt 57 (e 1) 1)) w K) (fun t8 w =>
    G (isB t7 false) (fun K => N (xv (Instr.loadAt 35 t8)) w K) (fun t9 w =>
    G (isB t7 false) (fun K => N (xcall (Value.func (Fn.func 53) #[] #[]) [t9]) w K) (fun t10 w =>
    G (isB t7 false) (fun K => N (xv (Op.unary UnOp.not t10)) w K) (fun t11 w =>
    N (xpick t7 (Value.bool true) t11) w fun t12 w =>
    M t12 fun t2 =>
    k (Env.p e 2 t2) w) w) w) w) w) (by kernel_rfl) (by intros; kernel_rfl)
noncomputable def c51_s:=@s_reg Try.prog 13 V51 c51 c51_1 0 o51_0 (fun N M G k e w =>
    N (xv (Instr.box 57 (e 0))) w fun t1 w =>
    M (Value.bool false) fun t2 =>
    k (Env.p (Env.p e 1 t1) 2 t2) w) (by kernel_rfl) (by intros; kernel_rfl)
theorem call51 {a0 : Value} {w : World} {R : Value → World → Prop} (h : W3 Try.prog 13 V51 c51 (retQ Try.prog [.tmp 2] R) (argE [a0]) w) : CallsN Try.prog 51 [a0] w R :=
  callsN_of_W3 (c := c51) (rs := [.tmp 2]) V51 Try.ntmps51 (by rw [Try.results51]) mixed Try.func51 (by kernel_rfl) (by kernel_rfl) (by kernel_rfl) (by kernel_rfl) (by simp) h
noncomputable def w3t_51:=w3t Try.prog 13 V51
noncomputable def hk51 := And.intro @c51_1_s <| And.intro @c51_s <| @w3t_51
-- K51: ↓hk51
/-! ### vouch/codec.things$2 -/
def V56 : Nat → Bool := fun i => [0, 2].elem i
noncomputable def c56:Code:=(Try.f56.body.getD .skip)
noncomputable def o56_0:Array Oper:=rO (cL c56)
noncomputable def c56_1:Code:=(cR c56)
noncomputable def o56_1:Array Oper:=rO (cL c56_1)
noncomputable def c56_1_s:=@s_reg Try.prog 6 V56 c56_1 .ret 1 o56_1 (fun N M G k e w =>
    M (e 0) fun t3 =>
    N (xcall (Value.func (Fn.func 52) #[] #[]) [t3]) w fun t4 w =>
    N (xv (Op.unary UnOp.not t4)) w fun t5 w =>
    M t5 fun t2 =>
    k (Env.p e 2 t2) w) (by kernel_rfl) (by intros; kernel_rfl)
noncomputable def c56_s:=@s_reg Try.prog 6 V56 c56 c56_1 0 o56_0 (fun N M G k e w =>
    M (Value.bool false) fun t2 =>
    k (Env.p e 2 t2) w) (by kernel_rfl) (by intros; kernel_rfl)
theorem call56 {a0 : Value} {w : World} {R : Value → World → Prop} (h : W3 Try.prog 6 V56 c56 (retQ Try.prog [.tmp 2] R) (argE [a0]) w) : CallsN Try.prog 56 [a0] w R :=
  callsN_of_W3 (c := c56) (rs := [.tmp 2]) V56 Try.ntmps56 (by rw [Try.results56]) mixed Try.func56 (by kernel_rfl) (by kernel_rfl) (by kernel_rfl) (by kernel_rfl) (by simp) h
noncomputable def w3t_56:=w3t Try.prog 6 V56
noncomputable def hk56 := And.intro @c56_1_s <| And.intro @c56_s <| @w3t_56
-- K56: ↓hk56
/-! ### vouch/codec.blank -/
def V49 : Nat → Bool := fun i => [0, 1, 2, 3, 6, 7, 15, 21, 31, 33, 40, 59, 64, 73, 81, 85, 89].elem i
noncomputable def c49:Code:=(Try.f49.body.getD .skip)
noncomputable def o49_0:Array Oper:=rO (cL c49)
noncomputable def c49_1:Code:=(cR c49)
noncomputable def o49_1:Array Oper:=rO (cL c49_1)
noncomputable def c49_2:Code:=(cR c49_1)
noncomputable def c49_3:Code:=(cR c49_2)
noncomputable def o49_34:Array Oper:=rO (cL c49_3)
noncomputable def c49_4:Code:=(cL c49_2)
noncomputable def o49_2:Array Oper:=rO (cL c49_4)
noncomputable def c49_5:Code:=(cR c49_4)
noncomputable def c49_6:Code:=(cL c49_5)
noncomputable def c49_7:Code:=(cR c49_6)
noncomputable def c49_8:Code:=(cL c49_7)
noncomputable def o49_5:Array Oper:=rO (cL c49_8)
noncomputable def c49_9:Code:=(cR c49_8)
noncomputable def o49_6:Array Oper:=rO (cL c49_9)
noncomputable def c49_10:Code:=(cR c49_9)
noncomputable def c49_11:Code:=(cL c49_10)
noncomputable def o49_7:Array Oper:=rO c49_11
noncomputable def b49_7:List Row:=[(0, 0, 2, 17, true), (1, 1, 65536, 18, true), (0, 0, 8, 19, true), (4, 4, 262144, 0, false), (12, 12, 8, 20, true), (28, 28, 524288, 0, false), (63, 63, 8, 21, true), (127, 127, 1179648, 0, false)]
noncomputable def c49_12:Code:=(cR c49_7)
noncomputable def c49_13:Code:=(cR c49_12)
noncomputable def c49_14:Code:=(cL c49_13)
noncomputable def o49_10:Array Oper:=rO (cL c49_14)
noncomputable def c49_15:Code:=(cR c49_14)
noncomputable def o49_11:Array Oper:=rO (cL c49_15)
noncomputable def c49_16:Code:=(cR c49_15)
noncomputable def c49_17:Code:=(cL c49_16)
noncomputable def o49_12:Array Oper:=rO c49_17
noncomputable def c49_18:Code:=(cR c49_13)
noncomputable def c49_19:Code:=(cR c49_18)
noncomputable def c49_20:Code:=(cL c49_19)
noncomputable def o49_15:Array Oper:=rO (cL c49_20)
noncomputable def c49_21:Code:=(cR c49_20)
noncomputable def c49_22:Code:=(cR c49_21)
noncomputable def o49_19:Array Oper:=rO (cL c49_22)
noncomputable def c49_23:Code:=(cR c49_22)
noncomputable def c49_24:Code:=(cL c49_23)
noncomputable def o49_20:Array Oper:=rO c49_24
noncomputable def c49_25:Code:=(cL c49_21)
noncomputable def o49_16:Array Oper:=rO (cL c49_25)
noncomputable def c49_26:Code:=(cR c49_25)
noncomputable def c49_27:Code:=(cL c49_26)
noncomputable def o49_17:Array Oper:=rO c49_27
noncomputable def c49_28:Code:=(cR c49_26)
noncomputable def o49_18:Array Oper:=rO c49_28
noncomputable def c49_29:Code:=(cR c49_19)
noncomputable def o49_21:Array Oper:=rO (cL c49_29)
noncomputable def c49_30:Code:=(cR c49_29)
noncomputable def c49_31:Code:=(cL c49_30)
noncomputable def o49_22:Array Oper:=rO c49_31
noncomputable def c49_32:Code:=(cR c49_30)
noncomputable def c49_33:Code:=(cR c49_32)
noncomputable def c49_34:Code:=(cL c49_33)
noncomputable def o49_27:Array Oper:=rO (cL c49_34)
noncomputable def c49_35:Code:=(cR c49_34)
noncomputable def c49_36:Code:=(cR c49_35)
noncomputable def c49_37:Code:=(cR c49_36)
noncomputable def o49_32:Array Oper:=rO (cL c49_37)
noncomputable def c49_38:Code:=(cR c49_37)
noncomputable def c49_39:Code:=(cL c49_38)
noncomputable def o49_33:Array Oper:=rO c49_39
noncomputable def c49_40:Code:=(cL c49_36)
noncomputable def o49_30:Array Oper:=rO (cL c49_40)
noncomputable def c49_41:Code:=(cR c49_40)
noncomputable def c49_42:Code:=(cL c49_41)
noncomputable def o49_31:Array Oper:=rO c49_42
noncomputable def c49_43:Code:=(cL c49_35)
noncomputable def o49_28:Array Oper:=rO (cL c49_43)
noncomputable def c49_44:Code:=(cR c49_43)
noncomputable def c49_45:Code:=(cL c49_44)
noncomputable def o49_29:Array Oper:=rO c49_45
noncomputable def c49_46:Code:=(cL c49_32)
noncomputable def o49_23:Array Oper:=rO (cL c49_46)
noncomputable def c49_47:Code:=(cR c49_46)
noncomputable def c49_48:Code:=(cR c49_47)
noncomputable def o49_24:Array Oper:=rO (cL c49_48)
noncomputable def c49_49:Code:=(cR c49_48)
noncomputable def c49_50:Code:=(cR c49_49)
noncomputable def o49_25:Array Oper:=rO (cL c49_50)
noncomputable def c49_51:Code:=(cR c49_50)
noncomputable def c49_52:Code:=(cR c49_51)
noncomputable def o49_26:Array Oper:=rO c49_52
noncomputable def c49_53:Code:=(cL c49_18)
noncomputable def o49_13:Array Oper:=rO (cL c49_53)
noncomputable def c49_54:Code:=(cR c49_53)
noncomputable def c49_55:Code:=(cR c49_54)
noncomputable def o49_14:Array Oper:=rO c49_55
noncomputable def c49_56:Code:=(cL c49_12)
noncomputable def o49_8:Array Oper:=rO (cL c49_56)
noncomputable def c49_57:Code:=(cR c49_56)
noncomputable def c49_58:Code:=(cR c49_57)
noncomputable def o49_9:Array Oper:=rO c49_58
noncomputable def c49_59:Code:=(cL c49_6)
noncomputable def o49_3:Array Oper:=rO (cL c49_59)
noncomputable def c49_60:Code:=(cR c49_59)
noncomputable def c49_61:Code:=(cR c49_60)
noncomputable def o49_4:Array Oper:=rO c49_61
noncomputable def c49_3_s:=@s_reg Try.prog 92 V49 c49_3 .ret 34 o49_34 (fun N M G k e w =>
    N (xv (Instr.loadAt 40 (e 3))) w fun t91 w =>
    N (xu (Instr.storeAt 40 (e 2) t91)) w fun _ w =>
    k e w) (by kernel_rfl) (by intros; kernel_rfl)
noncomputable def c49_11_s:=@s_drwE Try.prog 92 V49 c49_11 7 o49_7 b49_7 8 (fun N T M G H Y k e w =>
    T (FrX none w) (xv (Instr.fieldAt 40 (e 1) 12)) fun t16 =>
    T (FrX (some []) w) (xv (Instr.loadAt 37 t16)) fun t17 =>
    T (FrX none w) (xv (Instr.fieldAt 40 (e 3) 10)) fun t18 =>
    N (xu (Instr.storeAt 36 t18 (Value.int IntKind.i64 0))) w fun _ w3 =>
    Y true (xv (Instr.loadAt 37 t16)) t17 w w3 ∧ (T (FrX none w3) (xv (Instr.fieldAt 40 (e 3) 11)) fun t19 =>
    N (xu (Instr.storeAt 2 t19 (Value.int IntKind.i64 0))) w3 fun _ w5 =>
    Y true (xv (Instr.loadAt 37 t16)) t17 w w5 ∧ (T (FrX none w5) (xv (Instr.fieldAt 40 (e 3) 12)) fun t20 =>
    N (xu (Instr.storeAt 37 t20 t17)) w5 fun _ w7 =>
    k e w7))) (by kernel_rfl) (by kernel_rfl) (by kernel_rfl) (by intros; kernel_rfl)
noncomputable def c49_10_s:=@s_cond Try.prog 92 V49 c49_10 .skip 15 c49_11 (by kernel_rfl) (by kernel_rfl)
noncomputable def c49_9_s:=@s_reg Try.prog 92 V49 c49_9 c49_10 6 o49_6 (fun N M G k e w =>
    N (xv (Instr.fieldAt 40 (e 1) 0)) w fun t13 w =>
    N (xv (Instr.loadAt 3 t13)) w fun t14 w =>
    N (xv (xbin BinOp.eql 3 (Operand.tmp 14) (Operand.const (Value.int IntKind.i64 2)) t14 (Value.int IntKind.i64 2))) w fun t15 w =>
    k (Env.p e 15 t15) w) (by kernel_rfl) (by intros; kernel_rfl)
noncomputable def c49_8_s:=@s_reg Try.prog 92 V49 c49_8 c49_9 5 o49_5 (fun N M G k e w =>
    N (xv (Instr.fieldAt 40 (e 3) 3)) w fun t10 w =>
    N (xu (Instr.storeAt 3 t10 (Value.int IntKind.i64 0))) w fun _ w =>
    N (xv (Instr.fieldAt 40 (e 3) 5)) w fun t11 w =>
    N (xu (Instr.storeAt 3 t11 (Value.int IntKind.i64 0))) w fun _ w =>
    N (xv (Instr.fieldAt 40 (e 3) 12)) w fun t12 w =>
    N (xu (Instr.storeAt 37 t12 (Value.slice none 0 0))) w fun _ w =>
    k e w) (by kernel_rfl) (by intros; kernel_rfl)
noncomputable def c49_17_s:=@s_rend Try.prog 92 V49 c49_17 12 o49_12 (fun N M G k e w =>
    N (xv (Instr.fieldAt 40 (e 3) 1)) w fun t32 w =>
    N (xu (Instr.storeAt 3 t32 (Value.int IntKind.i64 0))) w fun _ w =>
    k e w) (by kernel_rfl) (by intros; kernel_rfl)
noncomputable def c49_16_s:=@s_cond Try.prog 92 V49 c49_16 .skip 31 c49_17 (by kernel_rfl) (by kernel_rfl)
noncomputable def c49_15_s:=@s_reg Try.prog 92 V49 c49_15 c49_16 11 o49_11 (fun N M G k e w =>
    N (xv (Instr.fieldAt 40 (e 1) 0)) w fun t29 w =>
    N (xv (Instr.loadAt 3 t29)) w fun t30 w =>
    N (xv (xbin BinOp.eql 3 (Operand.tmp 30) (Operand.const (Value.int IntKind.i64 3)) t30 (Value.int IntKind.i64 3))) w fun t31 w =>
    k (Env.p e 31 t31) w) (by kernel_rfl) (by intros; kernel_rfl)
noncomputable def c49_14_s:=@s_reg Try.prog 92 V49 c49_14 c49_15 10 o49_10 (fun N M G k e w =>
    N (xv (Instr.build 33 ([]).toArray)) w fun t24 w =>
    N (xv (Instr.fieldAt 40 (e 3) 4)) w fun t25 w =>
    N (xu (Instr.storeAt 3 t25 (Value.int IntKind.i64 0))) w fun _ w =>
    N (xv (Instr.fieldAt 40 (e 3) 5)) w fun t26 w =>
    N (xu (Instr.storeAt 3 t26 (Value.int IntKind.i64 0))) w fun _ w =>
    N (xv (Instr.fieldAt 40 (e 3) 6)) w fun t27 w =>
    N (xu (Instr.storeAt 9 t27 (Value.string ⟨#[]⟩))) w fun _ w =>
    N (xv (Instr.fieldAt 40 (e 3) 7)) w fun t28 w =>
    N (xu (Instr.storeAt 33 t28 t24)) w fun _ w =>
    k e w) (by kernel_rfl) (by intros; kernel_rfl)
noncomputable def c49_24_s:=@s_rend Try.prog 92 V49 c49_24 20 o49_20 (fun N M G k e w =>
    N (xv (Instr.build 35 ([]).toArray)) w fun t60 w =>
    N (xv (Instr.build 33 ([]).toArray)) w fun t61 w =>
    N (xv (Instr.fieldAt 40 (e 3) 8)) w fun t62 w =>
    N (xu (Instr.storeAt 35 t62 t60)) w fun _ w =>
    N (xv (Instr.fieldAt 40 (e 3) 7)) w fun t63 w =>
    N (xu (Instr.storeAt 33 t63 t61)) w fun _ w =>
    k e w) (by kernel_rfl) (by intros; kernel_rfl)
noncomputable def c49_23_s:=@s_cond Try.prog 92 V49 c49_23 .skip 59 c49_24 (by kernel_rfl) (by kernel_rfl)
noncomputable def c49_22_s:=@s_reg Try.prog 92 V49 c49_22 c49_23 19 o49_19 (fun N M G k e w =>
    N (xv (Instr.fieldAt 40 (e 1) 9)) w fun t43 w =>
    N (xv (Instr.loadAt 4 t43)) w fun t44 w =>
    M t44 fun t45 =>
    G (isB t45 true) (fun K => N (xv (Instr.fieldAt 40 (e 1) 0)) w K) (fun t46 w =>
    G (isB t45 true) (fun K => N (xv (Instr.loadAt 3 t46)) w K) (fun t47 w =>
    G (isB t45 true) (fun K => N (xv (xbin BinOp.eql 3 (Operand.tmp 47) (Operand.const (Value.int IntKind.i64 4)) t47 (Value.int IntKind.i64 4))) w K) (fun t48 w =>
    N (xpick t45 t48 (Value.bool false)) w fun t49 w =>
    M t49 fun t50 =>
    G (isB t50 false) (fun K => N (xv (Instr.fieldAt 40 (e 1) 10)) w K) (fun t51 w =>
    G (isB t50 false) (fun K => N (xv (Instr.loadAt 36 t51)) w K) (fun t52 w =>
    G (isB t50 false) (fun K => N (xv (xbin BinOp.eql 36 (Operand.tmp 52) (Operand.const (Value.int IntKind.i64 0)) t52 (Value.int IntKind.i64 0))) w K) (fun t53 w =>
    G (isB t50 false) (fun K => M t53 fun v => K v w) (fun t54 w =>
    G (isB t54 true) (fun K => N (xv (Instr.fieldAt 40 (e 1) 0)) w K) (fun t55 w =>
    G (isB t54 true) (fun K => N (xv (Instr.loadAt 3 t55)) w K) (fun t56 w =>
    G (isB t54 true) (fun K => N (xv (xbin BinOp.eql 3 (Operand.tmp 56) (Operand.const (Value.int IntKind.i64 6)) t56 (Value.int IntKind.i64 6))) w K) (fun t57 w =>
    G (isB t50 false) (fun K => N (xpick t54 t57 (Value.bool false)) w K) (fun t58 w =>
    N (xpick t50 (Value.bool true) t58) w fun t59 w =>
    k (Env.p e 59 t59) w) w) w) w) w) w) w) w) w) w) w) w) (by kernel_rfl) (by intros; kernel_rfl)
noncomputable def c49_27_s:=@s_rend Try.prog 92 V49 c49_27 17 o49_17 (fun N M G k e w =>
    N (xv (Instr.fieldAt 40 (e 3) 9)) w fun t41 w =>
    N (xu (Instr.storeAt 4 t41 (Value.bool false))) w fun _ w =>
    k e w) (by kernel_rfl) (by intros; kernel_rfl)
noncomputable def c49_28_s:=@s_rend Try.prog 92 V49 c49_28 18 o49_18 (fun N M G k e w =>
    N (xv (Instr.fieldAt 40 (e 3) 10)) w fun t42 w =>
    N (xu (Instr.storeAt 36 t42 (Value.int IntKind.i64 0))) w fun _ w =>
    k e w) (by kernel_rfl) (by intros; kernel_rfl)
noncomputable def c49_26_s:=@s_cond Try.prog 92 V49 c49_26 c49_28 40 c49_27 (by kernel_rfl) (by kernel_rfl)
noncomputable def c49_25_s:=@s_reg Try.prog 92 V49 c49_25 c49_26 16 o49_16 (fun N M G k e w =>
    N (xv (Instr.fieldAt 40 (e 1) 0)) w fun t38 w =>
    N (xv (Instr.loadAt 3 t38)) w fun t39 w =>
    N (xv (xbin BinOp.eql 3 (Operand.tmp 39) (Operand.const (Value.int IntKind.i64 4)) t39 (Value.int IntKind.i64 4))) w fun t40 w =>
    k (Env.p e 40 t40) w) (by kernel_rfl) (by intros; kernel_rfl)
noncomputable def c49_21_s:=@s_seq Try.prog 92 V49 c49_21 c49_22 c49_25 (by kernel_rfl)
noncomputable def c49_20_s:=@s_reg Try.prog 92 V49 c49_20 c49_21 15 o49_15 (fun N M G k e w =>
    N (xv (Instr.fieldAt 40 (e 3) 4)) w fun t36 w =>
    N (xu (Instr.storeAt 3 t36 (Value.int IntKind.i64 0))) w fun _ w =>
    N (xv (Instr.fieldAt 40 (e 3) 5)) w fun t37 w =>
    N (xu (Instr.storeAt 3 t37 (Value.int IntKind.i64 0))) w fun _ w =>
    k e w) (by kernel_rfl) (by intros; kernel_rfl)
noncomputable def c49_31_s:=@s_rend Try.prog 92 V49 c49_31 22 o49_22 (fun N M G k e w =>
    N (xv (Instr.build 35 ([]).toArray)) w fun t66 w =>
    N (xv (Instr.build 33 ([]).toArray)) w fun t67 w =>
    N (xv (Instr.fieldAt 40 (e 3) 1)) w fun t68 w =>
    N (xu (Instr.storeAt 3 t68 (Value.int IntKind.i64 0))) w fun _ w =>
    N (xv (Instr.fieldAt 40 (e 3) 6)) w fun t69 w =>
    N (xu (Instr.storeAt 9 t69 (Value.string ⟨#[]⟩))) w fun _ w =>
    N (xv (Instr.fieldAt 40 (e 3) 8)) w fun t70 w =>
    N (xu (Instr.storeAt 35 t70 t66)) w fun _ w =>
    N (xv (Instr.fieldAt 40 (e 3) 7)) w fun t71 w =>
    N (xu (Instr.storeAt 33 t71 t67)) w fun _ w =>
    N (xv (Instr.fieldAt 40 (e 3) 11)) w fun t72 w =>
    N (xu (Instr.storeAt 2 t72 (Value.int IntKind.i64 0))) w fun _ w =>
    k e w) (by kernel_rfl) (by intros; kernel_rfl)
noncomputable def c49_39_s:=@s_rend Try.prog 92 V49 c49_39 33 o49_33 (fun N M G k e w =>
    N (xv (Instr.fieldAt 40 (e 3) 2)) w fun t90 w =>
    N (xu (Instr.storeAt 3 t90 (Value.int IntKind.i64 0))) w fun _ w =>
    k e w) (by kernel_rfl) (by intros; kernel_rfl)
noncomputable def c49_38_s:=@s_cond Try.prog 92 V49 c49_38 .skip 89 c49_39 (by kernel_rfl) (by kernel_rfl)
noncomputable def c49_37_s:=@s_reg Try.prog 92 V49 c49_37 c49_38 32 o49_32 (fun N M G k e w =>
    N (xv (Instr.fieldAt 40 (e 1) 0)) w fun t87 w =>
    N (xv (Instr.loadAt 3 t87)) w fun t88 w =>
    N (xv (xbin BinOp.geq 3 (Operand.tmp 88) (Operand.const (Value.int IntKind.i64 10)) t88 (Value.int IntKind.i64 10))) w fun t89 w =>
    k (Env.p e 89 t89) w) (by kernel_rfl) (by intros; kernel_rfl)
noncomputable def c49_42_s:=@s_rend Try.prog 92 V49 c49_42 31 o49_31 (fun N M G k e w =>
    N (xv (Instr.fieldAt 40 (e 3) 13)) w fun t86 w =>
    N (xu (Instr.storeAt 38 t86 (Value.slice none 0 0))) w fun _ w =>
    k e w) (by kernel_rfl) (by intros; kernel_rfl)
noncomputable def c49_41_s:=@s_cond Try.prog 92 V49 c49_41 .skip 85 c49_42 (by kernel_rfl) (by kernel_rfl)
noncomputable def c49_40_s:=@s_reg Try.prog 92 V49 c49_40 c49_41 30 o49_30 (fun N M G k e w =>
    N (xv (Instr.fieldAt 40 (e 1) 0)) w fun t83 w =>
    N (xv (Instr.loadAt 3 t83)) w fun t84 w =>
    N (xv (xbin BinOp.eql 3 (Operand.tmp 84) (Operand.const (Value.int IntKind.i64 8)) t84 (Value.int IntKind.i64 8))) w fun t85 w =>
    k (Env.p e 85 t85) w) (by kernel_rfl) (by intros; kernel_rfl)
noncomputable def c49_36_s:=@s_seq Try.prog 92 V49 c49_36 c49_37 c49_40 (by kernel_rfl)
noncomputable def c49_45_s:=@s_rend Try.prog 92 V49 c49_45 29 o49_29 (fun N M G k e w =>
    N (xv (Instr.fieldAt 40 (e 3) 11)) w fun t82 w =>
    N (xu (Instr.storeAt 2 t82 (Value.int IntKind.i64 0))) w fun _ w =>
    k e w) (by kernel_rfl) (by intros; kernel_rfl)
noncomputable def c49_44_s:=@s_cond Try.prog 92 V49 c49_44 .skip 81 c49_45 (by kernel_rfl) (by kernel_rfl)
noncomputable def c49_43_s:=@s_reg Try.prog 92 V49 c49_43 c49_44 28 o49_28 (fun N M G k e w =>
    N (xv (Instr.fieldAt 40 (e 1) 0)) w fun t79 w =>
    N (xv (Instr.loadAt 3 t79)) w fun t80 w =>
    N (xv (xbin BinOp.neq 3 (Operand.tmp 80) (Operand.const (Value.int IntKind.i64 10)) t80 (Value.int IntKind.i64 10))) w fun t81 w =>
    k (Env.p e 81 t81) w) (by kernel_rfl) (by intros; kernel_rfl)
noncomputable def c49_35_s:=@s_seq Try.prog 92 V49 c49_35 c49_36 c49_43 (by kernel_rfl)
noncomputable def c49_34_s:=@s_reg Try.prog 92 V49 c49_34 c49_35 27 o49_27 (fun N M G k e w =>
    N (xv (Instr.fieldAt 40 (e 3) 1)) w fun t78 w =>
    N (xu (Instr.storeAt 3 t78 (Value.int IntKind.i64 0))) w fun _ w =>
    k e w) (by kernel_rfl) (by intros; kernel_rfl)
noncomputable def c49_33_s:=@s_cond Try.prog 92 V49 c49_33 .skip 73 c49_34 (by kernel_rfl) (by kernel_rfl)
noncomputable def c49_52_s:=@s_rend Try.prog 92 V49 c49_52 26 o49_26 (fun N M G k e w =>
    N (xv (xbin BinOp.eql 3 (Operand.tmp 6) (Operand.const (Value.int IntKind.i64 11)) (e 6) (Value.int IntKind.i64 11))) w fun t77 w =>
    M t77 fun t73 =>
    k (Env.p e 73 t73) w) (by kernel_rfl) (by intros; kernel_rfl)
noncomputable def c49_51_s:=@s_cond Try.prog 92 V49 c49_51 c49_52 73 .skip (by kernel_rfl) (by kernel_rfl)
noncomputable def c49_50_s:=@s_reg Try.prog 92 V49 c49_50 c49_51 25 o49_25 (fun N M G k e w =>
    N (xv (xbin BinOp.eql 3 (Operand.tmp 6) (Operand.const (Value.int IntKind.i64 10)) (e 6) (Value.int IntKind.i64 10))) w fun t76 w =>
    M t76 fun t73 =>
    k (Env.p e 73 t73) w) (by kernel_rfl) (by intros; kernel_rfl)
noncomputable def c49_49_s:=@s_cond Try.prog 92 V49 c49_49 c49_50 73 .skip (by kernel_rfl) (by kernel_rfl)
noncomputable def c49_48_s:=@s_reg Try.prog 92 V49 c49_48 c49_49 24 o49_24 (fun N M G k e w =>
    N (xv (xbin BinOp.eql 3 (Operand.tmp 6) (Operand.const (Value.int IntKind.i64 9)) (e 6) (Value.int IntKind.i64 9))) w fun t75 w =>
    M t75 fun t73 =>
    k (Env.p e 73 t73) w) (by kernel_rfl) (by intros; kernel_rfl)
noncomputable def c49_47_s:=@s_cond Try.prog 92 V49 c49_47 c49_48 73 .skip (by kernel_rfl) (by kernel_rfl)
noncomputable def c49_46_s:=@s_reg Try.prog 92 V49 c49_46 c49_47 23 o49_23 (fun N M G k e w =>
    N (xv (xbin BinOp.eql 3 (Operand.tmp 6) (Operand.const (Value.int IntKind.i64 8)) (e 6) (Value.int IntKind.i64 8))) w fun t74 w =>
    M t74 fun t73 =>
    k (Env.p e 73 t73) w) (by kernel_rfl) (by intros; kernel_rfl)
noncomputable def c49_32_s:=@s_seq Try.prog 92 V49 c49_32 c49_33 c49_46 (by kernel_rfl)
noncomputable def c49_30_s:=@s_cond Try.prog 92 V49 c49_30 c49_32 64 c49_31 (by kernel_rfl) (by kernel_rfl)
noncomputable def c49_29_s:=@s_reg Try.prog 92 V49 c49_29 c49_30 21 o49_21 (fun N M G k e w =>
    N (xv (xbin BinOp.eql 3 (Operand.tmp 6) (Operand.const (Value.int IntKind.i64 7)) (e 6) (Value.int IntKind.i64 7))) w fun t65 w =>
    M t65 fun t64 =>
    k (Env.p e 64 t64) w) (by kernel_rfl) (by intros; kernel_rfl)
noncomputable def c49_19_s:=@s_cond Try.prog 92 V49 c49_19 c49_29 33 c49_20 (by kernel_rfl) (by kernel_rfl)
noncomputable def c49_55_s:=@s_rend Try.prog 92 V49 c49_55 14 o49_14 (fun N M G k e w =>
    N (xv (xbin BinOp.eql 3 (Operand.tmp 6) (Operand.const (Value.int IntKind.i64 6)) (e 6) (Value.int IntKind.i64 6))) w fun t35 w =>
    M t35 fun t33 =>
    k (Env.p e 33 t33) w) (by kernel_rfl) (by intros; kernel_rfl)
noncomputable def c49_54_s:=@s_cond Try.prog 92 V49 c49_54 c49_55 33 .skip (by kernel_rfl) (by kernel_rfl)
noncomputable def c49_53_s:=@s_reg Try.prog 92 V49 c49_53 c49_54 13 o49_13 (fun N M G k e w =>
    N (xv (xbin BinOp.eql 3 (Operand.tmp 6) (Operand.const (Value.int IntKind.i64 4)) (e 6) (Value.int IntKind.i64 4))) w fun t34 w =>
    M t34 fun t33 =>
    k (Env.p e 33 t33) w) (by kernel_rfl) (by intros; kernel_rfl)
noncomputable def c49_18_s:=@s_seq Try.prog 92 V49 c49_18 c49_19 c49_53 (by kernel_rfl)
noncomputable def c49_13_s:=@s_cond Try.prog 92 V49 c49_13 c49_18 21 c49_14 (by kernel_rfl) (by kernel_rfl)
noncomputable def c49_58_s:=@s_rend Try.prog 92 V49 c49_58 9 o49_9 (fun N M G k e w =>
    N (xv (xbin BinOp.eql 3 (Operand.tmp 6) (Operand.const (Value.int IntKind.i64 5)) (e 6) (Value.int IntKind.i64 5))) w fun t23 w =>
    M t23 fun t21 =>
    k (Env.p e 21 t21) w) (by kernel_rfl) (by intros; kernel_rfl)
noncomputable def c49_57_s:=@s_cond Try.prog 92 V49 c49_57 c49_58 21 .skip (by kernel_rfl) (by kernel_rfl)
noncomputable def c49_56_s:=@s_reg Try.prog 92 V49 c49_56 c49_57 8 o49_8 (fun N M G k e w =>
    N (xv (xbin BinOp.eql 3 (Operand.tmp 6) (Operand.const (Value.int IntKind.i64 3)) (e 6) (Value.int IntKind.i64 3))) w fun t22 w =>
    M t22 fun t21 =>
    k (Env.p e 21 t21) w) (by kernel_rfl) (by intros; kernel_rfl)
noncomputable def c49_12_s:=@s_seq Try.prog 92 V49 c49_12 c49_13 c49_56 (by kernel_rfl)
noncomputable def c49_7_s:=@s_cond Try.prog 92 V49 c49_7 c49_12 7 c49_8 (by kernel_rfl) (by kernel_rfl)
noncomputable def c49_61_s:=@s_rend Try.prog 92 V49 c49_61 4 o49_4 (fun N M G k e w =>
    N (xv (xbin BinOp.eql 3 (Operand.tmp 6) (Operand.const (Value.int IntKind.i64 2)) (e 6) (Value.int IntKind.i64 2))) w fun t9 w =>
    M t9 fun t7 =>
    k (Env.p e 7 t7) w) (by kernel_rfl) (by intros; kernel_rfl)
noncomputable def c49_60_s:=@s_cond Try.prog 92 V49 c49_60 c49_61 7 .skip (by kernel_rfl) (by kernel_rfl)
noncomputable def c49_59_s:=@s_reg Try.prog 92 V49 c49_59 c49_60 3 o49_3 (fun N M G k e w =>
    N (xv (xbin BinOp.eql 3 (Operand.tmp 6) (Operand.const (Value.int IntKind.i64 1)) (e 6) (Value.int IntKind.i64 1))) w fun t8 w =>
    M t8 fun t7 =>
    k (Env.p e 7 t7) w) (by kernel_rfl) (by intros; kernel_rfl)
noncomputable def c49_6_s:=@s_seq Try.prog 92 V49 c49_6 c49_7 c49_59 (by kernel_rfl)
noncomputable def c49_5_s:=@s_block Try.prog 92 V49 c49_5 c49_6 0 (by kernel_rfl)
noncomputable def c49_4_s:=@s_reg Try.prog 92 V49 c49_4 c49_5 2 o49_2 (fun N M G k e w =>
    N (xv (Instr.fieldAt 40 (e 1) 0)) w fun t5 w =>
    N (xv (Instr.loadAt 3 t5)) w fun t6 w =>
    k (Env.p e 6 t6) w) (by kernel_rfl) (by intros; kernel_rfl)
noncomputable def c49_2_s:=@s_seq Try.prog 92 V49 c49_2 c49_3 c49_4 (by kernel_rfl)
noncomputable def c49_1_s:=@s_reg Try.prog 92 V49 c49_1 c49_2 1 o49_1 (fun N M G k e w =>
    N (xv (Instr.loadAt 40 (e 1))) w fun t4 w =>
    N (xv (Instr.alloc 40 true (.tuple #[]))) w fun t3 w =>
    N (xu (Instr.storeAt 40 t3 t4)) w fun _ w =>
    k (Env.p e 3 t3) w) (by kernel_rfl) (by intros; kernel_rfl)
noncomputable def c49_s:=@s_reg Try.prog 92 V49 c49 c49_1 0 o49_0 (fun N M G k e w =>
    N (xv (Instr.box 40 (e 0))) w fun t1 w =>
    N (xv (Instr.alloc 40 true (.tuple #[]))) w fun t2 w =>
    k (Env.p (Env.p e 1 t1) 2 t2) w) (by kernel_rfl) (by intros; kernel_rfl)
theorem call49 {a0 : Value} {w : World} {R : Value → World → Prop} (h : W3 Try.prog 92 V49 c49 (retQ Try.prog [.cell 2 40] R) (argE [a0]) w) : CallsN Try.prog 49 [a0] w R :=
  callsN_of_W3 (c := c49) (rs := [.cell 2 40]) V49 Try.ntmps49 (by rw [Try.results49]) mixed Try.func49 (by kernel_rfl) (by kernel_rfl) (by kernel_rfl) (by kernel_rfl) (by simp) h
noncomputable def w3t_49:=w3t Try.prog 92 V49
noncomputable def hk49 := And.intro @c49_3_s <| And.intro @c49_11_s <| And.intro @c49_10_s <| And.intro @c49_9_s <| And.intro @c49_8_s <| And.intro @c49_17_s <| And.intro @c49_16_s <| And.intro @c49_15_s <| And.intro @c49_14_s <| And.intro @c49_24_s <| And.intro @c49_23_s <| And.intro @c49_22_s <| And.intro @c49_27_s <| And.intro @c49_28_s <| And.intro @c49_26_s <| And.intro @c49_25_s <| And.intro @c49_21_s <| And.intro @c49_20_s <| And.intro @c49_31_s <| And.intro @c49_39_s <| And.intro @c49_38_s <| And.intro @c49_37_s <| And.intro @c49_42_s <| And.intro @c49_41_s <| And.intro @c49_40_s <| And.intro @c49_36_s <| And.intro @c49_45_s <| And.intro @c49_44_s <| And.intro @c49_43_s <| And.intro @c49_35_s <| And.intro @c49_34_s <| And.intro @c49_33_s <| And.intro @c49_52_s <| And.intro @c49_51_s <| And.intro @c49_50_s <| And.intro @c49_49_s <| And.intro @c49_48_s <| And.intro @c49_47_s <| And.intro @c49_46_s <| And.intro @c49_32_s <| And.intro @c49_30_s <| And.intro @c49_29_s <| And.intro @c49_19_s <| And.intro @c49_55_s <| And.intro @c49_54_s <| And.intro @c49_53_s <| And.intro @c49_18_s <| And.intro @c49_13_s <| And.intro @c49_58_s <| And.intro @c49_57_s <| And.intro @c49_56_s <| And.intro @c49_12_s <| And.intro @c49_7_s <| And.intro @c49_61_s <| And.intro @c49_60_s <| And.intro @c49_59_s <| And.intro @c49_6_s <| And.intro @c49_5_s <| And.intro @c49_4_s <| And.intro @c49_2_s <| And.intro @c49_1_s <| And.intro @c49_s <| @w3t_49
-- K49: ↓hk49
/-! ### vouch/codec.between -/
def V50 : Nat → Bool := fun i => [0, 1, 2, 6].elem i
noncomputable def c50:Code:=(Try.f50.body.getD .skip)
noncomputable def o50_0:Array Oper:=rO (cL c50)
noncomputable def c50_1:Code:=(cR c50)
noncomputable def o50_1:Array Oper:=rO (cL c50_1)
noncomputable def c50_1_s:=@s_reg Try.prog 15 V50 c50_1 .ret 1 o50_1 (fun N M G k e w =>
    M (e 1) fun t7 =>
    M (e 0) fun t8 =>
    N (xv (xbin BinOp.leq 2 (Operand.tmp 7) (Operand.tmp 8) t7 t8)) w fun t9 w =>
    M t9 fun t10 =>
    G (isB t10 true) (fun K => M (e 0) fun v => K v w) (fun t11 w =>
    G (isB t10 true) (fun K => M (e 2) fun v => K v w) (fun t12 w =>
    G (isB t10 true) (fun K => N (xv (xbin BinOp.leq 2 (Operand.tmp 11) (Operand.tmp 12) t11 t12)) w K) (fun t13 w =>
    N (xpick t10 t13 (Value.bool false)) w fun t14 w =>
    M t14 fun t6 =>
    k (Env.p e 6 t6) w) w) w) w) (by kernel_rfl) (by intros; kernel_rfl)
noncomputable def c50_s:=@s_reg Try.prog 15 V50 c50 c50_1 0 o50_0 (fun N M G k e w =>
    M (Value.bool false) fun t6 =>
    k (Env.p e 6 t6) w) (by kernel_rfl) (by intros; kernel_rfl)
theorem call50 {a0 a1 a2 : Value} {w : World} {R : Value → World → Prop} (h : W3 Try.prog 15 V50 c50 (retQ Try.prog [.tmp 6] R) (argE [a0, a1, a2]) w) : CallsN Try.prog 50 [a0, a1, a2] w R :=
  callsN_of_W3 (c := c50) (rs := [.tmp 6]) V50 Try.ntmps50 (by rw [Try.results50]) mixed Try.func50 (by kernel_rfl) (by kernel_rfl) (by kernel_rfl) (by kernel_rfl) (by simp) h
noncomputable def w3t_50:=w3t Try.prog 15 V50
noncomputable def hk50 := And.intro @c50_1_s <| And.intro @c50_s <| @w3t_50
-- K50: ↓hk50
/-! ### vouch/codec.goodKey -/
def V52 : Nat → Bool := fun i => [0, 2].elem i
noncomputable def c52:Code:=(Try.f52.body.getD .skip)
noncomputable def o52_0:Array Oper:=rO (cL c52)
noncomputable def c52_1:Code:=(cR c52)
noncomputable def o52_1:Array Oper:=rO (cL c52_1)
noncomputable def c52_1_s:=@s_reg Try.prog 6 V52 c52_1 .ret 1 o52_1 (fun N M G k e w =>
    M (e 0) fun t3 =>
    N (xv (Instr.build 50 ([(0, t3), (3, (Value.int IntKind.i64 1))]).toArray)) w fun t4 w =>
    N (xcall (Value.func (Fn.func 63) #[] #[]) [t4]) w fun t5 w =>
    M t5 fun t2 =>
    k (Env.p e 2 t2) w) (by kernel_rfl) (by intros; kernel_rfl)
noncomputable def c52_s:=@s_reg Try.prog 6 V52 c52 c52_1 0 o52_0 (fun N M G k e w =>
    M (Value.bool false) fun t2 =>
    k (Env.p e 2 t2) w) (by kernel_rfl) (by intros; kernel_rfl)
theorem call52 {a0 : Value} {w : World} {R : Value → World → Prop} (h : W3 Try.prog 6 V52 c52 (retQ Try.prog [.tmp 2] R) (argE [a0]) w) : CallsN Try.prog 52 [a0] w R :=
  callsN_of_W3 (c := c52) (rs := [.tmp 2]) V52 Try.ntmps52 (by rw [Try.results52]) mixed Try.func52 (by kernel_rfl) (by kernel_rfl) (by kernel_rfl) (by kernel_rfl) (by simp) h
noncomputable def w3t_52:=w3t Try.prog 6 V52
noncomputable def hk52 := And.intro @c52_1_s <| And.intro @c52_s <| @w3t_52
-- K52: ↓hk52
/-! ### vouch/codec.goodValue -/
def V53 : Nat → Bool := fun i => [0, 1, 2].elem i
noncomputable def c53:Code:=(Try.f53.body.getD .skip)
noncomputable def o53_0:Array Oper:=rO (cL c53)
noncomputable def c53_1:Code:=(cR c53)
noncomputable def o53_1:Array Oper:=rO (cL c53_1)
noncomputable def c53_1_s:=@s_reg Try.prog 6 V53 c53_1 .ret 1 o53_1 (fun N M G k e w =>
    N (xv (Instr.loadAt 35 (e 1))) w fun t3 w =>
    N (xv (Instr.build 50 ([(0, (Value.string ⟨#[107]⟩)), (1, t3), (3, (Value.int IntKind.i64 1))]).toArray)) w fun t4 w =>
    N (xcall (Value.func (Fn.func 63) #[] #[]) [t4]) w fun t5 w =>
    M t5 fun t2 =>
    k (Env.p e 2 t2) w) (by kernel_rfl) (by intros; kernel_rfl)
noncomputable def c53_s:=@s_reg Try.prog 6 V53 c53 c53_1 0 o53_0 (fun N M G k e w =>
    N (xv (Instr.box 35 (e 0))) w fun t1 w =>
    M (Value.bool false) fun t2 =>
    k (Env.p (Env.p e 1 t1) 2 t2) w) (by kernel_rfl) (by intros; kernel_rfl)
theorem call53 {a0 : Value} {w : World} {R : Value → World → Prop} (h : W3 Try.prog 6 V53 c53 (retQ Try.prog [.tmp 2] R) (argE [a0]) w) : CallsN Try.prog 53 [a0] w R :=
  callsN_of_W3 (c := c53) (rs := [.tmp 2]) V53 Try.ntmps53 (by rw [Try.results53]) mixed Try.func53 (by kernel_rfl) (by kernel_rfl) (by kernel_rfl) (by kernel_rfl) (by simp) h
noncomputable def w3t_53:=w3t Try.prog 6 V53
noncomputable def hk53 := And.intro @c53_1_s <| And.intro @c53_s <| @w3t_53
-- K53: ↓hk53
/-! ### vouch/codec.goodPin -/
def V55 : Nat → Bool := fun i => [0, 1, 2].elem i
noncomputable def c55:Code:=(Try.f55.body.getD .skip)
noncomputable def o55_0:Array Oper:=rO (cL c55)
noncomputable def c55_1:Code:=(cR c55)
noncomputable def o55_1:Array Oper:=rO (cL c55_1)
noncomputable def c55_1_s:=@s_reg Try.prog 9 V55 c55_1 .ret 1 o55_1 (fun N M G k e w =>
    N (xv (Instr.fieldAt 33 (e 1) 0)) w fun t3 w =>
    N (xv (Instr.loadAt 2 t3)) w fun t4 w =>
    N (xv (Instr.fieldAt 33 (e 1) 1)) w fun t5 w =>
    N (xv (Instr.loadAt 2 t5)) w fun t6 w =>
    N (xv (Instr.build 50 ([(0, (Value.string ⟨#[107]⟩)), (2, t4), (3, t6)]).toArray)) w fun t7 w =>
    N (xcall (Value.func (Fn.func 63) #[] #[]) [t7]) w fun t8 w =>
    M t8 fun t2 =>
    k (Env.p e 2 t2) w) (by kernel_rfl) (by intros; kernel_rfl)
noncomputable def c55_s:=@s_reg Try.prog 9 V55 c55 c55_1 0 o55_0 (fun N M G k e w =>
    N (xv (Instr.box 33 (e 0))) w fun t1 w =>
    M (Value.bool false) fun t2 =>
    k (Env.p (Env.p e 1 t1) 2 t2) w) (by kernel_rfl) (by intros; kernel_rfl)
theorem call55 {a0 : Value} {w : World} {R : Value → World → Prop} (h : W3 Try.prog 9 V55 c55 (retQ Try.prog [.tmp 2] R) (argE [a0]) w) : CallsN Try.prog 55 [a0] w R :=
  callsN_of_W3 (c := c55) (rs := [.tmp 2]) V55 Try.ntmps55 (by rw [Try.results55]) mixed Try.func55 (by kernel_rfl) (by kernel_rfl) (by kernel_rfl) (by kernel_rfl) (by simp) h
noncomputable def w3t_55:=w3t Try.prog 9 V55
noncomputable def hk55 := And.intro @c55_1_s <| And.intro @c55_s <| @w3t_55
-- K55: ↓hk55
/-! ### slices.ContainsFunc[[]vouch/api.Write,vouch/api.Write] -/
def V54 : Nat → Bool := fun i => [0, 1, 4].elem i
noncomputable def c54:Code:=(Try.f54.body.getD .skip)
noncomputable def o54_0:Array Oper:=rO (cL c54)
noncomputable def c54_1:Code:=(cR c54)
noncomputable def o54_1:Array Oper:=rO (cL c54_1)
noncomputable def c54_1_s:=@s_reg Try.prog 9 V54 c54_1 .ret 1 o54_1 (fun N M G k e w =>
    M (e 0) fun t5 =>
    M (e 1) fun t6 =>
    N (xcall (Value.func (Fn.func 64) #[] #[]) [t5, t6]) w fun t7 w =>
    N (xv (xbin BinOp.geq 3 (Operand.tmp 7) (Operand.const (Value.int IntKind.i64 0)) t7 (Value.int IntKind.i64 0))) w fun t8 w =>
    M t8 fun t4 =>
    k (Env.p e 4 t4) w) (by kernel_rfl) (by intros; kernel_rfl)
noncomputable def c54_s:=@s_reg Try.prog 9 V54 c54 c54_1 0 o54_0 (fun N M G k e w =>
    M (Value.bool false) fun t4 =>
    k (Env.p e 4 t4) w) (by kernel_rfl) (by intros; kernel_rfl)
theorem call54 {a0 a1 : Value} {w : World} {R : Value → World → Prop} (h : W3 Try.prog 9 V54 c54 (retQ Try.prog [.tmp 4] R) (argE [a0, a1]) w) : CallsN Try.prog 54 [a0, a1] w R :=
  callsN_of_W3 (c := c54) (rs := [.tmp 4]) V54 Try.ntmps54 (by rw [Try.results54]) mixed Try.func54 (by kernel_rfl) (by kernel_rfl) (by kernel_rfl) (by kernel_rfl) (by simp) h
noncomputable def w3t_54:=w3t Try.prog 9 V54
noncomputable def hk54 := And.intro @c54_1_s <| And.intro @c54_s <| @w3t_54
-- K54: ↓hk54
/-! ### slices.IndexFunc[[]vouch/api.Write,vouch/api.Write] -/
def V64 : Nat → Bool := fun i => [0, 1, 4, 5, 7, 8, 9, 16].elem i
noncomputable def c64:Code:=(Try.f64.body.getD .skip)
noncomputable def o64_0:Array Oper:=rO (cL c64)
noncomputable def c64_1:Code:=(cR c64)
noncomputable def c64_2:Code:=(cR c64_1)
noncomputable def o64_7:Array Oper:=rO (cL c64_2)
noncomputable def c64_3:Code:=(cL c64_1)
noncomputable def o64_1:Array Oper:=rO (cL c64_3)
noncomputable def c64_4:Code:=(cR c64_3)
noncomputable def c64_5:Code:=(cL c64_4)
noncomputable def c64_6:Code:=(cL c64_5)
noncomputable def o64_2:Array Oper:=rO (cL c64_6)
noncomputable def c64_7:Code:=(cR c64_6)
noncomputable def c64_8:Code:=(cR c64_7)
noncomputable def c64_9:Code:=(cR c64_8)
noncomputable def o64_6:Array Oper:=rO c64_9
noncomputable def c64_10:Code:=(cL c64_8)
noncomputable def c64_11:Code:=(cL c64_10)
noncomputable def o64_3:Array Oper:=rO (cL c64_11)
noncomputable def c64_12:Code:=(cR c64_11)
noncomputable def o64_4:Array Oper:=rO (cL c64_12)
noncomputable def c64_13:Code:=(cR c64_12)
noncomputable def c64_14:Code:=(cL c64_13)
noncomputable def o64_5:Array Oper:=rO (cL c64_14)
noncomputable def c64_15:Code:=(cL c64_7)
noncomputable def c64_2_s:=@s_reg Try.prog 19 V64 c64_2 .ret 7 o64_7 (fun N M G k e w =>
    M (Value.int IntKind.i64 (-1)) fun t4 =>
    k (Env.p e 4 t4) w) (by kernel_rfl) (by intros; kernel_rfl)
noncomputable def c64_9_s:=@s_rend Try.prog 19 V64 c64_9 6 o64_6 (fun N M G k e w =>
    N (xv (xbin BinOp.add 3 (Operand.tmp 8) (Operand.const (Value.int IntKind.i64 1)) (e 8) (Value.int IntKind.i64 1))) w fun t18 w =>
    M t18 fun t8 =>
    k (Env.p e 8 t8) w) (by kernel_rfl) (by intros; kernel_rfl)
noncomputable def c64_14_s:=@s_reg Try.prog 19 V64 c64_14 .ret 5 o64_5 (fun N M G k e w =>
    M (e 5) fun t17 =>
    M t17 fun t4 =>
    k (Env.p e 4 t4) w) (by kernel_rfl) (by intros; kernel_rfl)
noncomputable def c64_13_s:=@s_cond Try.prog 19 V64 c64_13 .skip 16 c64_14 (by kernel_rfl) (by kernel_rfl)
noncomputable def c64_12_s:=@s_reg Try.prog 19 V64 c64_12 c64_13 4 o64_4 (fun N M G k e w =>
    M (e 1) fun t11 =>
    M (e 0) fun t12 =>
    M (e 5) fun t13 =>
    N (xv (Instr.indexAt 37 t12 t13)) w fun t14 w =>
    N (xv (Instr.loadAt 57 t14)) w fun t15 w =>
    N (xcall t11 [t15]) w fun t16 w =>
    k (Env.p e 16 t16) w) (by kernel_rfl) (by intros; kernel_rfl)
noncomputable def c64_11_s:=@s_reg Try.prog 19 V64 c64_11 c64_12 3 o64_3 (fun N M G k e w =>
    M (e 8) fun t10 =>
    M t10 fun t5 =>
    k (Env.p e 5 t5) w) (by kernel_rfl) (by intros; kernel_rfl)
noncomputable def c64_10_s:=@s_block Try.prog 19 V64 c64_10 c64_11 1 (by kernel_rfl)
noncomputable def c64_8_s:=@s_seq Try.prog 19 V64 c64_8 c64_9 c64_10 (by kernel_rfl)
noncomputable def c64_15_s:=@s_cond Try.prog 19 V64 c64_15 (.exit 0) 9 .skip (by kernel_rfl) (by kernel_rfl)
noncomputable def c64_7_s:=@s_seq Try.prog 19 V64 c64_7 c64_8 c64_15 (by kernel_rfl)
noncomputable def c64_6_s:=@s_reg Try.prog 19 V64 c64_6 c64_7 2 o64_2 (fun N M G k e w =>
    N (xv (xbin BinOp.lss 3 (Operand.tmp 8) (Operand.tmp 7) (e 8) (e 7))) w fun t9 w =>
    k (Env.p e 9 t9) w) (by kernel_rfl) (by intros; kernel_rfl)
noncomputable def c64_5_s:=@s_loop Try.prog 19 V64 c64_5 c64_6 (by kernel_rfl)
noncomputable def c64_4_s:=@s_block Try.prog 19 V64 c64_4 c64_5 0 (by kernel_rfl)
noncomputable def c64_3_s:=@s_reg Try.prog 19 V64 c64_3 c64_4 1 o64_1 (fun N M G k e w =>
    M (e 0) fun t6 =>
    N (builtin Builtin.len #[37] 3 ([false]).toArray ([t6]).toArray) w fun t7 w =>
    M (Value.int IntKind.i64 0) fun t8 =>
    k (Env.p (Env.p e 7 t7) 8 t8) w) (by kernel_rfl) (by intros; kernel_rfl)
noncomputable def c64_1_s:=@s_seq Try.prog 19 V64 c64_1 c64_2 c64_3 (by kernel_rfl)
noncomputable def c64_s:=@s_reg Try.prog 19 V64 c64 c64_1 0 o64_0 (fun N M G k e w =>
    M (Value.int IntKind.i64 0) fun t4 =>
    k (Env.p e 4 t4) w) (by kernel_rfl) (by intros; kernel_rfl)
theorem call64 {a0 a1 : Value} {w : World} {R : Value → World → Prop} (h : W3 Try.prog 19 V64 c64 (retQ Try.prog [.tmp 4] R) (argE [a0, a1]) w) : CallsN Try.prog 64 [a0, a1] w R :=
  callsN_of_W3 (c := c64) (rs := [.tmp 4]) V64 Try.ntmps64 (by rw [Try.results64]) mixed Try.func64 (by kernel_rfl) (by kernel_rfl) (by kernel_rfl) (by kernel_rfl) (by simp) h
noncomputable def w3t_64:=w3t Try.prog 19 V64
noncomputable def hk64 := And.intro @c64_2_s <| And.intro @c64_9_s <| And.intro @c64_14_s <| And.intro @c64_13_s <| And.intro @c64_12_s <| And.intro @c64_11_s <| And.intro @c64_10_s <| And.intro @c64_8_s <| And.intro @c64_15_s <| And.intro @c64_7_s <| And.intro @c64_6_s <| And.intro @c64_5_s <| And.intro @c64_4_s <| And.intro @c64_3_s <| And.intro @c64_1_s <| And.intro @c64_s <| @w3t_64
-- K64: ↓hk64
/-! ### slices.ContainsFunc[[]string,string] -/
def V57 : Nat → Bool := fun i => [0, 1, 4].elem i
noncomputable def c57:Code:=(Try.f57.body.getD .skip)
noncomputable def o57_0:Array Oper:=rO (cL c57)
noncomputable def c57_1:Code:=(cR c57)
noncomputable def o57_1:Array Oper:=rO (cL c57_1)
noncomputable def c57_1_s:=@s_reg Try.prog 9 V57 c57_1 .ret 1 o57_1 (fun N M G k e w =>
    M (e 0) fun t5 =>
    M (e 1) fun t6 =>
    N (xcall (Value.func (Fn.func 65) #[] #[]) [t5, t6]) w fun t7 w =>
    N (xv (xbin BinOp.geq 3 (Operand.tmp 7) (Operand.const (Value.int IntKind.i64 0)) t7 (Value.int IntKind.i64 0))) w fun t8 w =>
    M t8 fun t4 =>
    k (Env.p e 4 t4) w) (by kernel_rfl) (by intros; kernel_rfl)
noncomputable def c57_s:=@s_reg Try.prog 9 V57 c57 c57_1 0 o57_0 (fun N M G k e w =>
    M (Value.bool false) fun t4 =>
    k (Env.p e 4 t4) w) (by kernel_rfl) (by intros; kernel_rfl)
theorem call57 {a0 a1 : Value} {w : World} {R : Value → World → Prop} (h : W3 Try.prog 9 V57 c57 (retQ Try.prog [.tmp 4] R) (argE [a0, a1]) w) : CallsN Try.prog 57 [a0, a1] w R :=
  callsN_of_W3 (c := c57) (rs := [.tmp 4]) V57 Try.ntmps57 (by rw [Try.results57]) mixed Try.func57 (by kernel_rfl) (by kernel_rfl) (by kernel_rfl) (by kernel_rfl) (by simp) h
noncomputable def w3t_57:=w3t Try.prog 9 V57
noncomputable def hk57 := And.intro @c57_1_s <| And.intro @c57_s <| @w3t_57
-- K57: ↓hk57
/-! ### slices.IndexFunc[[]string,string] -/
def V65 : Nat → Bool := fun i => [0, 1, 4, 5, 7, 8, 9, 16].elem i
noncomputable def c65:Code:=(Try.f65.body.getD .skip)
noncomputable def o65_0:Array Oper:=rO (cL c65)
noncomputable def c65_1:Code:=(cR c65)
noncomputable def c65_2:Code:=(cR c65_1)
noncomputable def o65_7:Array Oper:=rO (cL c65_2)
noncomputable def c65_3:Code:=(cL c65_1)
noncomputable def o65_1:Array Oper:=rO (cL c65_3)
noncomputable def c65_4:Code:=(cR c65_3)
noncomputable def c65_5:Code:=(cL c65_4)
noncomputable def c65_6:Code:=(cL c65_5)
noncomputable def o65_2:Array Oper:=rO (cL c65_6)
noncomputable def c65_7:Code:=(cR c65_6)
noncomputable def c65_8:Code:=(cR c65_7)
noncomputable def c65_9:Code:=(cR c65_8)
noncomputable def o65_6:Array Oper:=rO c65_9
noncomputable def c65_10:Code:=(cL c65_8)
noncomputable def c65_11:Code:=(cL c65_10)
noncomputable def o65_3:Array Oper:=rO (cL c65_11)
noncomputable def c65_12:Code:=(cR c65_11)
noncomputable def o65_4:Array Oper:=rO (cL c65_12)
noncomputable def c65_13:Code:=(cR c65_12)
noncomputable def c65_14:Code:=(cL c65_13)
noncomputable def o65_5:Array Oper:=rO (cL c65_14)
noncomputable def c65_15:Code:=(cL c65_7)
noncomputable def c65_2_s:=@s_reg Try.prog 19 V65 c65_2 .ret 7 o65_7 (fun N M G k e w =>
    M (Value.int IntKind.i64 (-1)) fun t4 =>
    k (Env.p e 4 t4) w) (by kernel_rfl) (by intros; kernel_rfl)
noncomputable def c65_9_s:=@s_rend Try.prog 19 V65 c65_9 6 o65_6 (fun N M G k e w =>
    N (xv (xbin BinOp.add 3 (Operand.tmp 8) (Operand.const (Value.int IntKind.i64 1)) (e 8) (Value.int IntKind.i64 1))) w fun t18 w =>
    M t18 fun t8 =>
    k (Env.p e 8 t8) w) (by kernel_rfl) (by intros; kernel_rfl)
noncomputable def c65_14_s:=@s_reg Try.prog 19 V65 c65_14 .ret 5 o65_5 (fun N M G k e w =>
    M (e 5) fun t17 =>
    M t17 fun t4 =>
    k (Env.p e 4 t4) w) (by kernel_rfl) (by intros; kernel_rfl)
noncomputable def c65_13_s:=@s_cond Try.prog 19 V65 c65_13 .skip 16 c65_14 (by kernel_rfl) (by kernel_rfl)
noncomputable def c65_12_s:=@s_reg Try.prog 19 V65 c65_12 c65_13 4 o65_4 (fun N M G k e w =>
    M (e 1) fun t11 =>
    M (e 0) fun t12 =>
    M (e 5) fun t13 =>
    N (xv (Instr.indexAt 38 t12 t13)) w fun t14 w =>
    N (xv (Instr.loadAt 9 t14)) w fun t15 w =>
    N (xcall t11 [t15]) w fun t16 w =>
    k (Env.p e 16 t16) w) (by kernel_rfl) (by intros; kernel_rfl)
noncomputable def c65_11_s:=@s_reg Try.prog 19 V65 c65_11 c65_12 3 o65_3 (fun N M G k e w =>
    M (e 8) fun t10 =>
    M t10 fun t5 =>
    k (Env.p e 5 t5) w) (by kernel_rfl) (by intros; kernel_rfl)
noncomputable def c65_10_s:=@s_block Try.prog 19 V65 c65_10 c65_11 1 (by kernel_rfl)
noncomputable def c65_8_s:=@s_seq Try.prog 19 V65 c65_8 c65_9 c65_10 (by kernel_rfl)
noncomputable def c65_15_s:=@s_cond Try.prog 19 V65 c65_15 (.exit 0) 9 .skip (by kernel_rfl) (by kernel_rfl)
noncomputable def c65_7_s:=@s_seq Try.prog 19 V65 c65_7 c65_8 c65_15 (by kernel_rfl)
noncomputable def c65_6_s:=@s_reg Try.prog 19 V65 c65_6 c65_7 2 o65_2 (fun N M G k e w =>
    N (xv (xbin BinOp.lss 3 (Operand.tmp 8) (Operand.tmp 7) (e 8) (e 7))) w fun t9 w =>
    k (Env.p e 9 t9) w) (by kernel_rfl) (by intros; kernel_rfl)
noncomputable def c65_5_s:=@s_loop Try.prog 19 V65 c65_5 c65_6 (by kernel_rfl)
noncomputable def c65_4_s:=@s_block Try.prog 19 V65 c65_4 c65_5 0 (by kernel_rfl)
noncomputable def c65_3_s:=@s_reg Try.prog 19 V65 c65_3 c65_4 1 o65_1 (fun N M G k e w =>
    M (e 0) fun t6 =>
    N (builtin Builtin.len #[38] 3 ([false]).toArray ([t6]).toArray) w fun t7 w =>
    M (Value.int IntKind.i64 0) fun t8 =>
    k (Env.p (Env.p e 7 t7) 8 t8) w) (by kernel_rfl) (by intros; kernel_rfl)
noncomputable def c65_1_s:=@s_seq Try.prog 19 V65 c65_1 c65_2 c65_3 (by kernel_rfl)
noncomputable def c65_s:=@s_reg Try.prog 19 V65 c65 c65_1 0 o65_0 (fun N M G k e w =>
    M (Value.int IntKind.i64 0) fun t4 =>
    k (Env.p e 4 t4) w) (by kernel_rfl) (by intros; kernel_rfl)
theorem call65 {a0 a1 : Value} {w : World} {R : Value → World → Prop} (h : W3 Try.prog 19 V65 c65 (retQ Try.prog [.tmp 4] R) (argE [a0, a1]) w) : CallsN Try.prog 65 [a0, a1] w R :=
  callsN_of_W3 (c := c65) (rs := [.tmp 4]) V65 Try.ntmps65 (by rw [Try.results65]) mixed Try.func65 (by kernel_rfl) (by kernel_rfl) (by kernel_rfl) (by kernel_rfl) (by simp) h
noncomputable def w3t_65:=w3t Try.prog 19 V65
noncomputable def hk65 := And.intro @c65_2_s <| And.intro @c65_9_s <| And.intro @c65_14_s <| And.intro @c65_13_s <| And.intro @c65_12_s <| And.intro @c65_11_s <| And.intro @c65_10_s <| And.intro @c65_8_s <| And.intro @c65_15_s <| And.intro @c65_7_s <| And.intro @c65_6_s <| And.intro @c65_5_s <| And.intro @c65_4_s <| And.intro @c65_3_s <| And.intro @c65_1_s <| And.intro @c65_s <| @w3t_65
-- K65: ↓hk65
/-! ### vouch/fact.Good -/
def V63 : Nat → Bool := fun i => [0, 1, 2, 3, 13].elem i
noncomputable def c63:Code:=(Try.f63.body.getD .skip)
noncomputable def o63_0:Array Oper:=rO (cL c63)
noncomputable def c63_1:Code:=(cR c63)
noncomputable def c63_2:Code:=(cR c63_1)
noncomputable def o63_5:Array Oper:=rO (cL c63_2)
noncomputable def c63_3:Code:=(cL c63_1)
noncomputable def c63_4:Code:=(cL c63_3)
noncomputable def o63_1:Array Oper:=rO (cL c63_4)
noncomputable def c63_5:Code:=(cR c63_4)
noncomputable def c63_6:Code:=(cL c63_5)
noncomputable def o63_2:Array Oper:=rO (cL c63_6)
noncomputable def c63_7:Code:=(cR c63_5)
noncomputable def o63_3:Array Oper:=rO (cL c63_7)
noncomputable def c63_8:Code:=(cR c63_7)
noncomputable def c63_9:Code:=(cL c63_8)
noncomputable def o63_4:Array Oper:=rO (cL c63_9)
noncomputable def c63_2_s:=@s_reg Try.prog 56 V63 c63_2 .ret 5 o63_5 (fun N M G k e w =>
    N (xv (Instr.fieldAt 50 (e 1) 2)) w fun t31 w =>
    N (xv (Instr.loadAt 2 t31)) w fun t32 w =>
    N (xv (xbin BinOp.geq 2 (Operand.tmp 32) (Operand.const (Value.int IntKind.i64 0)) t32 (Value.int IntKind.i64 0))) w fun t33 w =>
    M t33 fun t34 =>
    G (isB t34 true) (fun K => N (xv (Instr.fieldAt 50 (e 1) 2)) w K) (fun t35 w =>
    G (isB t34 true) (fun K => N (xv (Instr.loadAt 2 t35)) w K) (fun t36 w =>
    G (isB t34 true) (fun K => N (xv (xbin BinOp.leq 2 (Operand.tmp 36) (Operand.const (Value.int IntKind.i64 1099511627776)) t36 (Value.int IntKind.i64 1099511627776))) w K) (fun t37 w =>
    N (xpick t34 t37 (Value.bool false)) w fun t38 w =>
    M t38 fun t39 =>
    G (isB t39 true) (fun K => N (xv (Instr.fieldAt 50 (e 1) 3)) w K) (fun t40 w =>
    G (isB t39 true) (fun K => N (xv (Instr.loadAt 2 t40)) w K) (fun t41 w =>
    G (isB t39 true) (fun K => N (xv (Instr.fieldAt 50 (e 1) 2)) w K) (fun t42 w =>
    G (isB t39 true) (fun K => N (xv (Instr.loadAt 2 t42)) w K) (fun t43 w =>
    G (isB t39 true) (fun K => N (xv (xbin BinOp.gtr 2 (Operand.tmp 41) (Operand.tmp 43) t41 t43)) w K) (fun t44 w =>
    N (xpick t39 t44 (Value.bool false)) w fun t45 w =>
    M t45 fun t46 =>
    G (isB t46 true) (fun K => N (xv (Instr.fieldAt 50 (e 1) 3)) w K) (fun t47 w =>
    G (isB t46 true) (fun K => N (xv (Instr.loadAt 2 t47)) w K) (fun t48 w =>
    G (isB t46 true) (fun K => N (xv (xbin BinOp.eql 2 (Operand.tmp 48) (Operand.const (Value.int IntKind.i64 4611686018427387904)) t48 (Value.int IntKind.i64 4611686018427387904))) w K) (fun t49 w =>
    G (isB t46 true) (fun K => M t49 fun v => K v w) (fun t50 w =>
    G (isB t50 false) (fun K => N (xv (Instr.fieldAt 50 (e 1) 3)) w K) (fun t51 w =>
    G (isB t50 false) (fun K => N (xv (Instr.loadAt 2 t51)) w K) (fun t52 w =>
    G (isB t50 false) (fun K => N (xv (xbin BinOp.leq 2 (Operand.tmp 52) (Operand.const (Value.int IntKind.i64 1099511627777)) t52 (Value.int IntKind.i64 1099511627777))) w K) (fun t53 w =>
    G (isB t46 true) (fun K => N (xpick t50 (Value.bool true) t53) w K) (fun t54 w =>
    N (xpick t46 t54 (Value.bool false)) w fun t55 w =>
    M t55 fun t2 =>
    k (Env.p e 2 t2) w) w) w) w) w) w) w) w) w) w) w) w) w) w) w) w) w) (by kernel_rfl) (by intros; kernel_rfl)
noncomputable def c63_6_s:=@s_reg Try.prog 56 V63 c63_6 .ret 2 o63_2 (fun N M G k e w =>
    M (Value.bool false) fun t2 =>
    k (Env.p e 2 t2) w) (by kernel_rfl) (by intros; kernel_rfl)
noncomputable def c63_9_s:=@s_reg Try.prog 56 V63 c63_9 .ret 4 o63_4 (fun N M G k e w =>
    M (Value.bool false) fun t2 =>
    k (Env.p e 2 t2) w) (by kernel_rfl) (by intros; kernel_rfl)
noncomputable def c63_8_s:=@s_cond Try.prog 56 V63 c63_8 .skip 13 c63_9 (by kernel_rfl) (by kernel_rfl)
noncomputable def c63_7_s:=@s_reg Try.prog 56 V63 c63_7 c63_8 3 o63_3 (fun N M G k e w =>
    N (xv (Instr.fieldAt 50 (e 1) 1)) w fun t14 w =>
    N (xv (Instr.fieldAt 35 t14 1)) w fun t15 w =>
    N (xv (Instr.loadAt 9 t15)) w fun t16 w =>
    N (builtin Builtin.len #[9] 3 ([false]).toArray ([t16]).toArray) w fun t17 w =>
    N (xv (xbin BinOp.gtr 3 (Operand.tmp 17) (Operand.const (Value.int IntKind.i64 256)) t17 (Value.int IntKind.i64 256))) w fun t18 w =>
    M t18 fun t19 =>
    G (isB t19 false) (fun K => N (xv (Instr.fieldAt 50 (e 1) 1)) w K) (fun t20 w =>
    G (isB t19 false) (fun K => N (xv (Instr.fieldAt 35 t20 0)) w K) (fun t21 w =>
    G (isB t19 false) (fun K => N (xv (Instr.loadAt 4 t21)) w K) (fun t22 w =>
    G (isB t19 false) (fun K => N (xv (Op.unary UnOp.not t22)) w K) (fun t23 w =>
    G (isB t19 false) (fun K => M t23 fun v => K v w) (fun t24 w =>
    G (isB t24 true) (fun K => N (xv (Instr.fieldAt 50 (e 1) 1)) w K) (fun t25 w =>
    G (isB t24 true) (fun K => N (xv (Instr.fieldAt 35 t25 1)) w K) (fun t26 w =>
    G (isB t24 true) (fun K => N (xv (Instr.loadAt 9 t26)) w K) (fun t27 w =>
    G (isB t24 true) (fun K => N (xv (xbin BinOp.neq 9 (Operand.tmp 27) (Operand.const (Value.string ⟨#[]⟩)) t27 (Value.string ⟨#[]⟩))) w K) (fun t28 w =>
    G (isB t19 false) (fun K => N (xpick t24 t28 (Value.bool false)) w K) (fun t29 w =>
    N (xpick t19 (Value.bool true) t29) w fun t30 w =>
    M t30 fun t13 =>
    k (Env.p e 13 t13) w) w) w) w) w) w) w) w) w) w) w) (by kernel_rfl) (by intros; kernel_rfl)
noncomputable def c63_5_s:=@s_cond Try.prog 56 V63 c63_5 c63_7 3 c63_6 (by kernel_rfl) (by kernel_rfl)
noncomputable def c63_4_s:=@s_reg Try.prog 56 V63 c63_4 c63_5 1 o63_1 (fun N M G k e w =>
    N (xv (Instr.fieldAt 50 (e 1) 0)) w fun t4 w =>
    N (xv (Instr.loadAt 9 t4)) w fun t5 w =>
    N (xv (xbin BinOp.eql 9 (Operand.tmp 5) (Operand.const (Value.string ⟨#[]⟩)) t5 (Value.string ⟨#[]⟩))) w fun t6 w =>
    M t6 fun t7 =>
    G (isB t7 false) (fun K => N (xv (Instr.fieldAt 50 (e 1) 0)) w K) (fun t8 w =>
    G (isB t7 false) (fun K => N (xv (Instr.loadAt 9 t8)) w K) (fun t9 w =>
    G (isB t7 false) (fun K => N (builtin Builtin.len #[9] 3 ([false]).toArray ([t9]).toArray) w K) (fun t10 w =>
    G (isB t7 false) (fun K => N (xv (xbin BinOp.gtr 3 (Operand.tmp 10) (Operand.const (Value.int IntKind.i64 32)) t10 (Value.int IntKind.i64 32))) w K) (fun t11 w =>
    N (xpick t7 (Value.bool true) t11) w fun t12 w =>
    M t12 fun t3 =>
    k (Env.p e 3 t3) w) w) w) w) w) (by kernel_rfl) (by intros; kernel_rfl)
noncomputable def c63_3_s:=@s_block Try.prog 56 V63 c63_3 c63_4 0 (by kernel_rfl)
noncomputable def c63_1_s:=@s_seq Try.prog 56 V63 c63_1 c63_2 c63_3 (by kernel_rfl)
noncomputable def c63_s:=@s_reg Try.prog 56 V63 c63 c63_1 0 o63_0 (fun N M G k e w =>
    N (xv (Instr.box 50 (e 0))) w fun t1 w =>
    M (Value.bool false) fun t2 =>
    k (Env.p (Env.p e 1 t1) 2 t2) w) (by kernel_rfl) (by intros; kernel_rfl)
theorem call63 {a0 : Value} {w : World} {R : Value → World → Prop} (h : W3 Try.prog 56 V63 c63 (retQ Try.prog [.tmp 2] R) (argE [a0]) w) : CallsN Try.prog 63 [a0] w R :=
  callsN_of_W3 (c := c63) (rs := [.tmp 2]) V63 Try.ntmps63 (by rw [Try.results63]) mixed Try.func63 (by kernel_rfl) (by kernel_rfl) (by kernel_rfl) (by kernel_rfl) (by simp) h
noncomputable def w3t_63:=w3t Try.prog 56 V63
noncomputable def hk63 := And.intro @c63_2_s <| And.intro @c63_6_s <| And.intro @c63_9_s <| And.intro @c63_8_s <| And.intro @c63_7_s <| And.intro @c63_5_s <| And.intro @c63_4_s <| And.intro @c63_3_s <| And.intro @c63_1_s <| And.intro @c63_s <| @w3t_63
-- K63: ↓hk63
end
end Go.Proofs.Ytgloomahpjpiiaa
