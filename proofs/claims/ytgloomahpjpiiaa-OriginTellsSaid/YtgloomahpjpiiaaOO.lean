/- The equations of the code of some functions, written by the printer gen3.py: each is checked by the kernel. -/
import Derived.Test.YtgloomahpjpiiaaQ0
import Derived.Test.YtgloomahpjpiiaaCI
set_option linter.unusedVariables false
set_option linter.unusedSimpArgs false
set_option maxRecDepth 100000
namespace Go.Proofs.Ytgloomahpjpiiaa
open Go.VW
noncomputable section
set_option linter.defProp false
variable {N : NT} {T : T3T} {M : MT} {G : GT} {H : HT} {Y : YT} {k : KT} {Q : Exit → Env → World → Prop} {e el eg : Env} {w u0 u1 u2 u3 u4 u5 u6 u7 u8 u9 : World}
/-! ### vouch/origin.New -/
def V7 : Nat → Bool := fun i => [0, 1, 2].elem i
noncomputable def c7:Code:=(Try.f7.body.getD .skip)
noncomputable def o7_0:Array Oper:=rO (cL c7)
noncomputable def c7_1:Code:=(cR c7)
noncomputable def o7_1:Array Oper:=rO (cL c7_1)
noncomputable def c7_2:Code:=(cR c7_1)
noncomputable def o7_2:Array Oper:=rO (cL c7_2)
noncomputable def b7_2:List Row:=[(0, 0, 2, 6, true), (0, 0, 2, 7, true), (2, 2, 64, 8, true), (4, 6, 128, 9, false), (8, 14, 0, 10, false), (0, 0, 0, 11, false), (57, 63, 1824, 12, true), (64, 127, 2048, 13, false), (255, 255, 4096, 3, true)]
noncomputable def c7_2_s:=@s_drw Try.prog 13 V7 c7_2 .ret 2 o7_2 b7_2 9 (fun N T M G H Y k e w =>
    T (FrX (some []) w) (xv (Instr.loadAt 28 (e 1))) fun t5 =>
    T (FrX none w) (xv (Instr.fieldAt 28 (e 1) 5)) fun t6 =>
    T (FrX (some []) w) (xv (Instr.loadAt 3 t6)) fun t7 =>
    (N (xcall (Value.func (Fn.func 18) #[] #[]) [t7]) w fun t8 w3 =>
    Y true (xv (Instr.loadAt 28 (e 1))) t5 w w3 ∧ ((N (xcall (Value.func (Fn.func 19) #[] #[]) []) w3 fun t9 w4 =>
    Y true (xv (Instr.loadAt 28 (e 1))) t5 w w4 ∧ (N (xv (Instr.makeMap 64 none)) w4 fun t10 w5 =>
    Y true (xv (Instr.loadAt 28 (e 1))) t5 w w5 ∧ (T (FrX none w5) (xv (Instr.build 66 ([(0, t5), (1, t8), (2, t9), (3, t10)]).toArray)) fun t11 =>
    N (xv (Instr.box 66 t11)) w5 fun t12 w7 =>
    M t12 fun t2 =>
    k (Env.p e 2 t2) w7))) ∧ (N (xv (Instr.makeMap 64 none)) w3 fun t10 w5 =>
    Y true (xv (Instr.loadAt 28 (e 1))) t5 w w5 ∧ (N (xcall (Value.func (Fn.func 19) #[] #[]) []) w5 fun t9 w4 =>
    Y true (xv (Instr.loadAt 28 (e 1))) t5 w w4 ∧ (T (FrX none w4) (xv (Instr.build 66 ([(0, t5), (1, t8), (2, t9), (3, t10)]).toArray)) fun t11 =>
    N (xv (Instr.box 66 t11)) w4 fun t12 w7 =>
    M t12 fun t2 =>
    k (Env.p e 2 t2) w7))))) ∧ (N (xv (Instr.makeMap 64 none)) w fun t10 w5 =>
    Y true (xv (Instr.loadAt 3 t6)) t7 w w5 ∧ (Y true (xv (Instr.loadAt 28 (e 1))) t5 w w5 ∧ (N (xcall (Value.func (Fn.func 18) #[] #[]) [t7]) w5 fun t8 w3 =>
    Y true (xv (Instr.loadAt 28 (e 1))) t5 w w3 ∧ (N (xcall (Value.func (Fn.func 19) #[] #[]) []) w3 fun t9 w4 =>
    Y true (xv (Instr.loadAt 28 (e 1))) t5 w w4 ∧ (T (FrX none w4) (xv (Instr.build 66 ([(0, t5), (1, t8), (2, t9), (3, t10)]).toArray)) fun t11 =>
    N (xv (Instr.box 66 t11)) w4 fun t12 w7 =>
    M t12 fun t2 =>
    k (Env.p e 2 t2) w7)))))) (by kernel_rfl) (by kernel_rfl) (by kernel_rfl) (by intros; kernel_rfl)
noncomputable def c7_1_s:=@s_reg Try.prog 13 V7 c7_1 c7_2 1 o7_1 (fun N M G k e w =>
    N (xv (Instr.loadAt 28 (e 1))) w fun t3 w =>
    N (xcall (Value.func (Fn.func 17) #[] #[]) [t3]) w fun t4 w =>
    N (xu (Instr.storeAt 28 (e 1) t4)) w fun _ w =>
    k e w) (by kernel_rfl) (by intros; kernel_rfl)
noncomputable def c7_s:=@s_reg Try.prog 13 V7 c7 c7_1 0 o7_0 (fun N M G k e w =>
    N (xv (Instr.box 28 (e 0))) w fun t1 w =>
    M (Value.pointer none) fun t2 =>
    k (Env.p (Env.p e 1 t1) 2 t2) w) (by kernel_rfl) (by intros; kernel_rfl)
theorem call7 {a0 : Value} {w : World} {R : Value → World → Prop} (h : W3 Try.prog 13 V7 c7 (retQ Try.prog [.tmp 2] R) (argE [a0]) w) : CallsN Try.prog 7 [a0] w R :=
  callsN_of_W3 (c := c7) (rs := [.tmp 2]) V7 Try.ntmps7 (by rw [Try.results7]) mixed Try.func7 (by kernel_rfl) (by kernel_rfl) (by kernel_rfl) (by kernel_rfl) (by simp) h
noncomputable def w3t_7:=w3t Try.prog 13 V7
noncomputable def hk7 := And.intro @c7_2_s <| And.intro @c7_1_s <| And.intro @c7_s <| @w3t_7
-- K7: ↓hk7
/-! ### (*vouch/origin.Origin) . Handle -/
def V9 : Nat → Bool := fun i => [0, 1, 3, 4, 11, 13, 14, 19, 24, 29, 38].elem i
noncomputable def c9:Code:=(Try.f9.body.getD .skip)
noncomputable def o9_0:Array Oper:=rO (cL c9)
noncomputable def c9_1:Code:=(cR c9)
noncomputable def c9_2:Code:=(cR c9_1)
noncomputable def c9_3:Code:=(cR c9_2)
noncomputable def o9_13:Array Oper:=rO (cL c9_3)
noncomputable def c9_4:Code:=(cL c9_2)
noncomputable def o9_3:Array Oper:=rO (cL c9_4)
noncomputable def c9_5:Code:=(cR c9_4)
noncomputable def c9_6:Code:=(cL c9_5)
noncomputable def o9_4:Array Oper:=rO (cL c9_6)
noncomputable def c9_7:Code:=(cR c9_6)
noncomputable def c9_8:Code:=(cL c9_7)
noncomputable def o9_5:Array Oper:=rO (cL c9_8)
noncomputable def c9_9:Code:=(cR c9_7)
noncomputable def o9_6:Array Oper:=rO (cL c9_9)
noncomputable def c9_10:Code:=(cR c9_9)
noncomputable def c9_11:Code:=(cL c9_10)
noncomputable def o9_7:Array Oper:=rO (cL c9_11)
noncomputable def c9_12:Code:=(cR c9_10)
noncomputable def o9_8:Array Oper:=rO (cL c9_12)
noncomputable def c9_13:Code:=(cR c9_12)
noncomputable def c9_14:Code:=(cL c9_13)
noncomputable def o9_9:Array Oper:=rO (cL c9_14)
noncomputable def c9_15:Code:=(cR c9_13)
noncomputable def o9_10:Array Oper:=rO (cL c9_15)
noncomputable def c9_16:Code:=(cR c9_15)
noncomputable def c9_17:Code:=(cL c9_16)
noncomputable def o9_11:Array Oper:=rO (cL c9_17)
noncomputable def b9_11:List Row:=[(0, 0, 8, 32, true), (1, 1, 2147483648, 33, true), (0, 0, 1, 34, true), (4, 4, 8589934592, 35, true), (8, 12, 17179869184, 36, true), (16, 28, 34359738368, 37, true), (32, 60, 68719476736, 38, true), (66, 127, 141733920768, 39, true)]
noncomputable def c9_18:Code:=(cR c9_17)
noncomputable def c9_19:Code:=(cL c9_18)
noncomputable def o9_12:Array Oper:=rO (cL c9_19)
noncomputable def b9_12:List Row:=[(0, 0, 8, 40, true), (1, 1, 549755813888, 41, true), (0, 0, 8, 42, true), (4, 4, 2199023255552, 43, true), (0, 0, 1, 44, true), (16, 16, 8796093022208, 45, false), (42, 63, 23089744183296, 46, true), (64, 127, 35184372088832, 47, false), (255, 255, 70368744177664, 5, true)]
noncomputable def c9_20:Code:=(cL c9_1)
noncomputable def o9_1:Array Oper:=rO (cL c9_20)
noncomputable def c9_21:Code:=(cR c9_20)
noncomputable def c9_22:Code:=(cL c9_21)
noncomputable def o9_2:Array Oper:=rO (cL c9_22)
noncomputable def c9_3_s:=@s_reg Try.prog 47 V9 c9_3 .ret 13 o9_13 (fun N M G k e w =>
    M (Value.slice none 0 0) fun t4 =>
    k (Env.p e 4 t4) w) (by kernel_rfl) (by intros; kernel_rfl)
noncomputable def c9_8_s:=@s_reg Try.prog 47 V9 c9_8 .ret 5 o9_5 (fun N M G k e w =>
    M (e 0) fun t16 =>
    N (xv (Instr.loadAt 40 (e 3))) w fun t17 w =>
    N (xcall (Value.func (Fn.func 21) #[] #[]) [t16, t17]) w fun t18 w =>
    M t18 fun t4 =>
    k (Env.p e 4 t4) w) (by kernel_rfl) (by intros; kernel_rfl)
noncomputable def c9_11_s:=@s_reg Try.prog 47 V9 c9_11 .ret 7 o9_7 (fun N M G k e w =>
    M (e 0) fun t21 =>
    N (xv (Instr.loadAt 40 (e 3))) w fun t22 w =>
    N (xcall (Value.func (Fn.func 22) #[] #[]) [t21, t22]) w fun t23 w =>
    M t23 fun t4 =>
    k (Env.p e 4 t4) w) (by kernel_rfl) (by intros; kernel_rfl)
noncomputable def c9_14_s:=@s_reg Try.prog 47 V9 c9_14 .ret 9 o9_9 (fun N M G k e w =>
    M (e 0) fun t26 =>
    N (xv (Instr.loadAt 40 (e 3))) w fun t27 w =>
    N (xcall (Value.func (Fn.func 23) #[] #[]) [t26, t27]) w fun t28 w =>
    M t28 fun t4 =>
    k (Env.p e 4 t4) w) (by kernel_rfl) (by intros; kernel_rfl)
noncomputable def c9_19_s:=@s_drw Try.prog 47 V9 c9_19 .ret 12 o9_12 b9_12 9 (fun N T M G H Y k e w =>
    T (FrX none w) (xv (Instr.fieldAt 40 (e 3) 1)) fun t39 =>
    T (FrX (some []) w) (xv (Instr.loadAt 3 t39)) fun t40 =>
    T (FrX none w) (xv (Instr.fieldAt 40 (e 3) 2)) fun t41 =>
    T (FrX (some []) w) (xv (Instr.loadAt 3 t41)) fun t42 =>
    M (e 0) fun t43 =>
    N (xcall (Value.func (Fn.func 11) #[] #[]) [t43]) w fun t44 w5 =>
    Y true (xv (Instr.loadAt 3 t41)) t42 w w5 ∧ (Y true (xv (Instr.loadAt 3 t39)) t40 w w5 ∧ (T (FrX none w5) (xv (Instr.build 40 ([(0, (Value.int IntKind.i64 11)), (1, t40), (2, t42), (11, t44)]).toArray)) fun t45 =>
    N (xv (Instr.buildSlice 22 1 ([(0, t45)]).toArray)) w5 fun t46 w7 =>
    M t46 fun t4 =>
    k (Env.p e 4 t4) w7))) (by kernel_rfl) (by kernel_rfl) (by kernel_rfl) (by intros; kernel_rfl)
noncomputable def c9_18_s:=@s_cond Try.prog 47 V9 c9_18 .skip 38 c9_19 (by kernel_rfl) (by kernel_rfl)
noncomputable def c9_17_s:=@s_drw Try.prog 47 V9 c9_17 c9_18 11 o9_11 b9_11 8 (fun N T M G H Y k e w =>
    T (FrX none w) (xv (Instr.fieldAt 40 (e 3) 1)) fun t31 =>
    T (FrX (some []) w) (xv (Instr.loadAt 3 t31)) fun t32 =>
    M (e 0) fun t33 =>
    T (FrX none w) (xnil t33) fun t34 =>
    T (FrX none w) (xv (Instr.fieldAt 66 t34 0)) fun t35 =>
    T (FrX none w) (xv (Instr.fieldAt 28 t35 0)) fun t36 =>
    T (FrX (some []) w) (xv (Instr.loadAt 3 t36)) fun t37 =>
    T (FrX none w) (xv (xbin BinOp.lss 3 (Operand.tmp 32) (Operand.tmp 37) t32 t37)) fun t38 =>
    k (Env.p e 38 t38) w) (by kernel_rfl) (by kernel_rfl) (by kernel_rfl) (by intros; kernel_rfl)
noncomputable def c9_16_s:=@s_cond Try.prog 47 V9 c9_16 .skip 29 c9_17 (by kernel_rfl) (by kernel_rfl)
noncomputable def c9_15_s:=@s_reg Try.prog 47 V9 c9_15 c9_16 10 o9_10 (fun N M G k e w =>
    N (xv (xbin BinOp.eql 3 (Operand.tmp 13) (Operand.const (Value.int IntKind.i64 10)) (e 13) (Value.int IntKind.i64 10))) w fun t30 w =>
    M t30 fun t29 =>
    k (Env.p e 29 t29) w) (by kernel_rfl) (by intros; kernel_rfl)
noncomputable def c9_13_s:=@s_cond Try.prog 47 V9 c9_13 c9_15 24 c9_14 (by kernel_rfl) (by kernel_rfl)
noncomputable def c9_12_s:=@s_reg Try.prog 47 V9 c9_12 c9_13 8 o9_8 (fun N M G k e w =>
    N (xv (xbin BinOp.eql 3 (Operand.tmp 13) (Operand.const (Value.int IntKind.i64 9)) (e 13) (Value.int IntKind.i64 9))) w fun t25 w =>
    M t25 fun t24 =>
    k (Env.p e 24 t24) w) (by kernel_rfl) (by intros; kernel_rfl)
noncomputable def c9_10_s:=@s_cond Try.prog 47 V9 c9_10 c9_12 19 c9_11 (by kernel_rfl) (by kernel_rfl)
noncomputable def c9_9_s:=@s_reg Try.prog 47 V9 c9_9 c9_10 6 o9_6 (fun N M G k e w =>
    N (xv (xbin BinOp.eql 3 (Operand.tmp 13) (Operand.const (Value.int IntKind.i64 5)) (e 13) (Value.int IntKind.i64 5))) w fun t20 w =>
    M t20 fun t19 =>
    k (Env.p e 19 t19) w) (by kernel_rfl) (by intros; kernel_rfl)
noncomputable def c9_7_s:=@s_cond Try.prog 47 V9 c9_7 c9_9 14 c9_8 (by kernel_rfl) (by kernel_rfl)
noncomputable def c9_6_s:=@s_reg Try.prog 47 V9 c9_6 c9_7 4 o9_4 (fun N M G k e w =>
    N (xv (xbin BinOp.eql 3 (Operand.tmp 13) (Operand.const (Value.int IntKind.i64 1)) (e 13) (Value.int IntKind.i64 1))) w fun t15 w =>
    M t15 fun t14 =>
    k (Env.p e 14 t14) w) (by kernel_rfl) (by intros; kernel_rfl)
noncomputable def c9_5_s:=@s_block Try.prog 47 V9 c9_5 c9_6 0 (by kernel_rfl)
noncomputable def c9_4_s:=@s_reg Try.prog 47 V9 c9_4 c9_5 3 o9_3 (fun N M G k e w =>
    N (xv (Instr.fieldAt 40 (e 3) 0)) w fun t12 w =>
    N (xv (Instr.loadAt 3 t12)) w fun t13 w =>
    k (Env.p e 13 t13) w) (by kernel_rfl) (by intros; kernel_rfl)
noncomputable def c9_2_s:=@s_seq Try.prog 47 V9 c9_2 c9_3 c9_4 (by kernel_rfl)
noncomputable def c9_22_s:=@s_reg Try.prog 47 V9 c9_22 .ret 2 o9_2 (fun N M G k e w =>
    M (Value.slice none 0 0) fun t4 =>
    k (Env.p e 4 t4) w) (by kernel_rfl) (by intros; kernel_rfl)
noncomputable def c9_21_s:=@s_cond Try.prog 47 V9 c9_21 .skip 11 c9_22 (by kernel_rfl) (by kernel_rfl)
noncomputable def c9_20_s:=@s_reg Try.prog 47 V9 c9_20 c9_21 1 o9_1 (fun N M G k e w =>
    M (e 0) fun t5 =>
    N (xv (xbin BinOp.eql 25 (Operand.tmp 5) (Operand.const (Value.pointer none)) t5 (Value.pointer none))) w fun t6 w =>
    M t6 fun t7 =>
    G (isB t7 false) (fun K => N (xv (Instr.loadAt 40 (e 3))) w K) (fun t8 w =>
    G (isB t7 false) (fun K => N (xcall (Value.func (Fn.func 20) #[] #[]) [t8]) w K) (fun t9 w =>
    G (isB t7 false) (fun K => N (xv (xbin BinOp.neq 36 (Operand.tmp 9) (Operand.const (Value.int IntKind.i64 0)) t9 (Value.int IntKind.i64 0))) w K) (fun t10 w =>
    N (xpick t7 (Value.bool true) t10) w fun t11 w =>
    k (Env.p e 11 t11) w) w) w) w) (by kernel_rfl) (by intros; kernel_rfl)
noncomputable def c9_1_s:=@s_seq Try.prog 47 V9 c9_1 c9_2 c9_20 (by kernel_rfl)
noncomputable def c9_s:=@s_reg Try.prog 47 V9 c9 c9_1 0 o9_0 (fun N M G k e w =>
    N (xv (Instr.box 40 (e 1))) w fun t3 w =>
    M (Value.slice none 0 0) fun t4 =>
    k (Env.p (Env.p e 3 t3) 4 t4) w) (by kernel_rfl) (by intros; kernel_rfl)
theorem call9 {a0 a1 : Value} {w : World} {R : Value → World → Prop} (h : W3 Try.prog 47 V9 c9 (retQ Try.prog [.tmp 4] R) (argE [a0, a1]) w) : CallsN Try.prog 9 [a0, a1] w R :=
  callsN_of_W3 (c := c9) (rs := [.tmp 4]) V9 Try.ntmps9 (by rw [Try.results9]) mixed Try.func9 (by kernel_rfl) (by kernel_rfl) (by kernel_rfl) (by kernel_rfl) (by simp) h
noncomputable def w3t_9:=w3t Try.prog 47 V9
noncomputable def hk9 := And.intro @c9_3_s <| And.intro @c9_8_s <| And.intro @c9_11_s <| And.intro @c9_14_s <| And.intro @c9_19_s <| And.intro @c9_18_s <| And.intro @c9_17_s <| And.intro @c9_16_s <| And.intro @c9_15_s <| And.intro @c9_13_s <| And.intro @c9_12_s <| And.intro @c9_10_s <| And.intro @c9_9_s <| And.intro @c9_7_s <| And.intro @c9_6_s <| And.intro @c9_5_s <| And.intro @c9_4_s <| And.intro @c9_2_s <| And.intro @c9_22_s <| And.intro @c9_21_s <| And.intro @c9_20_s <| And.intro @c9_1_s <| And.intro @c9_s <| @w3t_9
-- K9: ↓hk9
/-! ### (*vouch/origin.Origin) . Last -/
def V11 : Nat → Bool := fun i => [0, 2, 4].elem i
noncomputable def c11:Code:=(Try.f11.body.getD .skip)
noncomputable def o11_0:Array Oper:=rO (cL c11)
noncomputable def c11_1:Code:=(cR c11)
noncomputable def c11_2:Code:=(cR c11_1)
noncomputable def o11_3:Array Oper:=rO (cL c11_2)
noncomputable def c11_3:Code:=(cL c11_1)
noncomputable def o11_1:Array Oper:=rO (cL c11_3)
noncomputable def c11_4:Code:=(cR c11_3)
noncomputable def c11_5:Code:=(cL c11_4)
noncomputable def o11_2:Array Oper:=rO (cL c11_5)
noncomputable def c11_2_s:=@s_reg Try.prog 10 V11 c11_2 .ret 3 o11_3 (fun N M G k e w =>
    M (e 0) fun t5 =>
    N (xnil t5) w fun t6 w =>
    N (xv (Instr.fieldAt 66 t6 1)) w fun t7 w =>
    N (xv (Instr.loadAt 60 t7)) w fun t8 w =>
    N (xcall (Value.func (Fn.func 24) #[] #[]) [t8]) w fun t9 w =>
    M t9 fun t2 =>
    k (Env.p e 2 t2) w) (by kernel_rfl) (by intros; kernel_rfl)
noncomputable def c11_5_s:=@s_reg Try.prog 10 V11 c11_5 .ret 2 o11_2 (fun N M G k e w =>
    M (Value.int IntKind.i64 0) fun t2 =>
    k (Env.p e 2 t2) w) (by kernel_rfl) (by intros; kernel_rfl)
noncomputable def c11_4_s:=@s_cond Try.prog 10 V11 c11_4 .skip 4 c11_5 (by kernel_rfl) (by kernel_rfl)
noncomputable def c11_3_s:=@s_reg Try.prog 10 V11 c11_3 c11_4 1 o11_1 (fun N M G k e w =>
    M (e 0) fun t3 =>
    N (xv (xbin BinOp.eql 25 (Operand.tmp 3) (Operand.const (Value.pointer none)) t3 (Value.pointer none))) w fun t4 w =>
    k (Env.p e 4 t4) w) (by kernel_rfl) (by intros; kernel_rfl)
noncomputable def c11_1_s:=@s_seq Try.prog 10 V11 c11_1 c11_2 c11_3 (by kernel_rfl)
noncomputable def c11_s:=@s_reg Try.prog 10 V11 c11 c11_1 0 o11_0 (fun N M G k e w =>
    M (Value.int IntKind.i64 0) fun t2 =>
    k (Env.p e 2 t2) w) (by kernel_rfl) (by intros; kernel_rfl)
theorem call11 {a0 : Value} {w : World} {R : Value → World → Prop} (h : W3 Try.prog 10 V11 c11 (retQ Try.prog [.tmp 2] R) (argE [a0]) w) : CallsN Try.prog 11 [a0] w R :=
  callsN_of_W3 (c := c11) (rs := [.tmp 2]) V11 Try.ntmps11 (by rw [Try.results11]) mixed Try.func11 (by kernel_rfl) (by kernel_rfl) (by kernel_rfl) (by kernel_rfl) (by simp) h
noncomputable def w3t_11:=w3t Try.prog 10 V11
noncomputable def hk11 := And.intro @c11_2_s <| And.intro @c11_5_s <| And.intro @c11_4_s <| And.intro @c11_3_s <| And.intro @c11_1_s <| And.intro @c11_s <| @w3t_11
-- K11: ↓hk11
/-! ### (*vouch/origin.Origin) . Records -/
def V12 : Nat → Bool := fun i => [0, 1, 2, 6, 8].elem i
noncomputable def c12:Code:=(Try.f12.body.getD .skip)
noncomputable def o12_0:Array Oper:=rO (cL c12)
noncomputable def c12_1:Code:=(cR c12)
noncomputable def c12_2:Code:=(cR c12_1)
noncomputable def o12_3:Array Oper:=rO (cL c12_2)
noncomputable def c12_3:Code:=(cL c12_1)
noncomputable def o12_1:Array Oper:=rO (cL c12_3)
noncomputable def c12_4:Code:=(cR c12_3)
noncomputable def c12_5:Code:=(cL c12_4)
noncomputable def o12_2:Array Oper:=rO (cL c12_5)
noncomputable def c12_2_s:=@s_reg Try.prog 16 V12 c12_2 .ret 3 o12_3 (fun N M G k e w =>
    M (e 0) fun t9 =>
    N (xnil t9) w fun t10 w =>
    N (xv (Instr.fieldAt 66 t10 2)) w fun t11 w =>
    N (xv (Instr.loadAt 62 t11)) w fun t12 w =>
    M (e 1) fun t13 =>
    M (e 2) fun t14 =>
    N (xcall (Value.func (Fn.func 25) #[] #[]) [t12, t13, t14]) w fun t15 w =>
    M t15 fun t6 =>
    k (Env.p e 6 t6) w) (by kernel_rfl) (by intros; kernel_rfl)
noncomputable def c12_5_s:=@s_reg Try.prog 16 V12 c12_5 .ret 2 o12_2 (fun N M G k e w =>
    M (Value.slice none 0 0) fun t6 =>
    k (Env.p e 6 t6) w) (by kernel_rfl) (by intros; kernel_rfl)
noncomputable def c12_4_s:=@s_cond Try.prog 16 V12 c12_4 .skip 8 c12_5 (by kernel_rfl) (by kernel_rfl)
noncomputable def c12_3_s:=@s_reg Try.prog 16 V12 c12_3 c12_4 1 o12_1 (fun N M G k e w =>
    M (e 0) fun t7 =>
    N (xv (xbin BinOp.eql 25 (Operand.tmp 7) (Operand.const (Value.pointer none)) t7 (Value.pointer none))) w fun t8 w =>
    k (Env.p e 8 t8) w) (by kernel_rfl) (by intros; kernel_rfl)
noncomputable def c12_1_s:=@s_seq Try.prog 16 V12 c12_1 c12_2 c12_3 (by kernel_rfl)
noncomputable def c12_s:=@s_reg Try.prog 16 V12 c12 c12_1 0 o12_0 (fun N M G k e w =>
    M (Value.slice none 0 0) fun t6 =>
    k (Env.p e 6 t6) w) (by kernel_rfl) (by intros; kernel_rfl)
theorem call12 {a0 a1 a2 : Value} {w : World} {R : Value → World → Prop} (h : W3 Try.prog 16 V12 c12 (retQ Try.prog [.tmp 6] R) (argE [a0, a1, a2]) w) : CallsN Try.prog 12 [a0, a1, a2] w R :=
  callsN_of_W3 (c := c12) (rs := [.tmp 6]) V12 Try.ntmps12 (by rw [Try.results12]) mixed Try.func12 (by kernel_rfl) (by kernel_rfl) (by kernel_rfl) (by kernel_rfl) (by simp) h
noncomputable def w3t_12:=w3t Try.prog 16 V12
noncomputable def hk12 := And.intro @c12_2_s <| And.intro @c12_5_s <| And.intro @c12_4_s <| And.intro @c12_3_s <| And.intro @c12_1_s <| And.intro @c12_s <| @w3t_12
-- K12: ↓hk12
/-! ### (*vouch/origin.Origin) . Oldest -/
def V13 : Nat → Bool := fun i => [0, 1, 4, 6].elem i
noncomputable def c13:Code:=(Try.f13.body.getD .skip)
noncomputable def o13_0:Array Oper:=rO (cL c13)
noncomputable def c13_1:Code:=(cR c13)
noncomputable def c13_2:Code:=(cR c13_1)
noncomputable def o13_3:Array Oper:=rO (cL c13_2)
noncomputable def c13_3:Code:=(cL c13_1)
noncomputable def o13_1:Array Oper:=rO (cL c13_3)
noncomputable def c13_4:Code:=(cR c13_3)
noncomputable def c13_5:Code:=(cL c13_4)
noncomputable def o13_2:Array Oper:=rO (cL c13_5)
noncomputable def c13_2_s:=@s_reg Try.prog 13 V13 c13_2 .ret 3 o13_3 (fun N M G k e w =>
    M (e 0) fun t7 =>
    N (xnil t7) w fun t8 w =>
    N (xv (Instr.fieldAt 66 t8 1)) w fun t9 w =>
    N (xv (Instr.loadAt 60 t9)) w fun t10 w =>
    M (e 1) fun t11 =>
    N (xcall (Value.func (Fn.func 26) #[] #[]) [t10, t11]) w fun t12 w =>
    M t12 fun t4 =>
    k (Env.p e 4 t4) w) (by kernel_rfl) (by intros; kernel_rfl)
noncomputable def c13_5_s:=@s_reg Try.prog 13 V13 c13_5 .ret 2 o13_2 (fun N M G k e w =>
    M (Value.int IntKind.i64 0) fun t4 =>
    k (Env.p e 4 t4) w) (by kernel_rfl) (by intros; kernel_rfl)
noncomputable def c13_4_s:=@s_cond Try.prog 13 V13 c13_4 .skip 6 c13_5 (by kernel_rfl) (by kernel_rfl)
noncomputable def c13_3_s:=@s_reg Try.prog 13 V13 c13_3 c13_4 1 o13_1 (fun N M G k e w =>
    M (e 0) fun t5 =>
    N (xv (xbin BinOp.eql 25 (Operand.tmp 5) (Operand.const (Value.pointer none)) t5 (Value.pointer none))) w fun t6 w =>
    k (Env.p e 6 t6) w) (by kernel_rfl) (by intros; kernel_rfl)
noncomputable def c13_1_s:=@s_seq Try.prog 13 V13 c13_1 c13_2 c13_3 (by kernel_rfl)
noncomputable def c13_s:=@s_reg Try.prog 13 V13 c13 c13_1 0 o13_0 (fun N M G k e w =>
    M (Value.int IntKind.i64 0) fun t4 =>
    k (Env.p e 4 t4) w) (by kernel_rfl) (by intros; kernel_rfl)
theorem call13 {a0 a1 : Value} {w : World} {R : Value → World → Prop} (h : W3 Try.prog 13 V13 c13 (retQ Try.prog [.tmp 4] R) (argE [a0, a1]) w) : CallsN Try.prog 13 [a0, a1] w R :=
  callsN_of_W3 (c := c13) (rs := [.tmp 4]) V13 Try.ntmps13 (by rw [Try.results13]) mixed Try.func13 (by kernel_rfl) (by kernel_rfl) (by kernel_rfl) (by kernel_rfl) (by simp) h
noncomputable def w3t_13:=w3t Try.prog 13 V13
noncomputable def hk13 := And.intro @c13_2_s <| And.intro @c13_5_s <| And.intro @c13_4_s <| And.intro @c13_3_s <| And.intro @c13_1_s <| And.intro @c13_s <| @w3t_13
-- K13: ↓hk13
/-! ### (*vouch/origin.Origin) . Read -/
def V14 : Nat → Bool := fun i => [0, 1, 2, 6, 7, 9].elem i
noncomputable def c14:Code:=(Try.f14.body.getD .skip)
noncomputable def o14_0:Array Oper:=rO (cL c14)
noncomputable def c14_1:Code:=(cR c14)
noncomputable def c14_2:Code:=(cR c14_1)
noncomputable def o14_3:Array Oper:=rO (cL c14_2)
noncomputable def c14_3:Code:=(cL c14_1)
noncomputable def o14_1:Array Oper:=rO (cL c14_3)
noncomputable def c14_4:Code:=(cR c14_3)
noncomputable def c14_5:Code:=(cL c14_4)
noncomputable def o14_2:Array Oper:=rO (cL c14_5)
noncomputable def c14_2_s:=@s_reg Try.prog 20 V14 c14_2 .ret 3 o14_3 (fun N M G k e w =>
    M (e 0) fun t11 =>
    N (xnil t11) w fun t12 w =>
    N (xv (Instr.fieldAt 66 t12 1)) w fun t13 w =>
    N (xv (Instr.loadAt 60 t13)) w fun t14 w =>
    M (e 1) fun t15 =>
    M (e 2) fun t16 =>
    N (xcall (Value.func (Fn.func 27) #[] #[]) [t14, t15, t16]) w fun t17 w =>
    N (xv (Instr.extract t17 0)) w fun t18 w =>
    N (xv (Instr.extract t17 1)) w fun t19 w =>
    N (xu (Instr.storeAt 50 (e 6) t18)) w fun _ w =>
    M t19 fun t7 =>
    k (Env.p e 7 t7) w) (by kernel_rfl) (by intros; kernel_rfl)
noncomputable def c14_5_s:=@s_reg Try.prog 20 V14 c14_5 .ret 2 o14_2 (fun N M G k e w =>
    N (xv (Instr.build 50 ([]).toArray)) w fun t10 w =>
    N (xu (Instr.storeAt 50 (e 6) t10)) w fun _ w =>
    M (Value.int IntKind.i64 3) fun t7 =>
    k (Env.p e 7 t7) w) (by kernel_rfl) (by intros; kernel_rfl)
noncomputable def c14_4_s:=@s_cond Try.prog 20 V14 c14_4 .skip 9 c14_5 (by kernel_rfl) (by kernel_rfl)
noncomputable def c14_3_s:=@s_reg Try.prog 20 V14 c14_3 c14_4 1 o14_1 (fun N M G k e w =>
    M (e 0) fun t8 =>
    N (xv (xbin BinOp.eql 25 (Operand.tmp 8) (Operand.const (Value.pointer none)) t8 (Value.pointer none))) w fun t9 w =>
    k (Env.p e 9 t9) w) (by kernel_rfl) (by intros; kernel_rfl)
noncomputable def c14_1_s:=@s_seq Try.prog 20 V14 c14_1 c14_2 c14_3 (by kernel_rfl)
noncomputable def c14_s:=@s_reg Try.prog 20 V14 c14 c14_1 0 o14_0 (fun N M G k e w =>
    N (xv (Instr.alloc 50 true (.tuple #[]))) w fun t6 w =>
    M (Value.int IntKind.i64 0) fun t7 =>
    k (Env.p (Env.p e 6 t6) 7 t7) w) (by kernel_rfl) (by intros; kernel_rfl)
theorem call14 {a0 a1 a2 : Value} {w : World} {R : Value → World → Prop} (h : W3 Try.prog 20 V14 c14 (retQ Try.prog [.cell 6 50, .tmp 7] R) (argE [a0, a1, a2]) w) : CallsN Try.prog 14 [a0, a1, a2] w R :=
  callsN_of_W3 (c := c14) (rs := [.cell 6 50, .tmp 7]) V14 Try.ntmps14 (by rw [Try.results14]) mixed Try.func14 (by kernel_rfl) (by kernel_rfl) (by kernel_rfl) (by kernel_rfl) (by simp) h
noncomputable def w3t_14:=w3t Try.prog 20 V14
noncomputable def hk14 := And.intro @c14_2_s <| And.intro @c14_5_s <| And.intro @c14_4_s <| And.intro @c14_3_s <| And.intro @c14_1_s <| And.intro @c14_s <| @w3t_14
-- K14: ↓hk14
/-! ### (*vouch/origin.Origin) . commit -/
def V21 : Nat → Bool := fun i => [0, 1, 3, 4, 5, 6, 7, 8, 9, 10, 11, 13, 14, 26, 32, 64, 67, 68, 69, 70, 89, 90, 91].elem i
noncomputable def c21:Code:=(Try.f21.body.getD .skip)
noncomputable def o21_0:Array Oper:=rO (cL c21)
noncomputable def c21_1:Code:=(cR c21)
noncomputable def o21_1:Array Oper:=rO (cL c21_1)
noncomputable def b21_1:List Row:=[(0, 0, 1, 16, true), (1, 1, 32768, 17, true), (2, 3, 65536, 18, true), (4, 7, 131072, 19, true), (0, 0, 8, 20, true), (16, 16, 524288, 21, true), (40, 63, 1310720, 22, true), (0, 0, 0, 6, false), (255, 255, 2097184, 0, false)]
noncomputable def c21_2:Code:=(cR c21_1)
noncomputable def c21_3:Code:=(cR c21_2)
noncomputable def o21_4:Array Oper:=rO (cL c21_3)
noncomputable def c21_4:Code:=(cR c21_3)
noncomputable def c21_5:Code:=(cR c21_4)
noncomputable def o21_7:Array Oper:=rO (cL c21_5)
noncomputable def b21_7:List Row:=[(0, 0, 1, 39, true), (1, 1, 274877906944, 40, true), (2, 3, 549755813888, 41, true), (4, 7, 1099511627776, 42, true), (0, 0, 8, 43, true), (16, 16, 4398046511104, 44, true), (40, 63, 10995116277760, 45, false), (64, 127, 17592186044416, 38, true), (128, 255, 137438953472, 46, true), (128, 255, 137438953472, 47, true), (511, 511, 35184372088832, 8, true), (2047, 2047, 70368744177664, 9, true)]
noncomputable def c21_6:Code:=(cR c21_5)
noncomputable def o21_8:Array Oper:=rO (cL c21_6)
noncomputable def c21_7:Code:=(cR c21_6)
noncomputable def o21_9:Array Oper:=rO (cL c21_7)
noncomputable def b21_9:List Row:=[(0, 0, 1, 53, true), (1, 1, 4503599627370496, 54, true), (2, 3, 9007199254740992, 55, true), (4, 7, 18014398509481984, 56, true), (0, 0, 8, 57, true), (16, 16, 72057594037927936, 58, true), (0, 0, 512, 59, true), (127, 127, 468374361246531584, 0, false)]
noncomputable def c21_8:Code:=(cR c21_7)
noncomputable def o21_10:Array Oper:=rO (cL c21_8)
noncomputable def c21_9:Code:=(cR c21_8)
noncomputable def c21_10:Code:=(cR c21_9)
noncomputable def o21_13:Array Oper:=rO (cL c21_10)
noncomputable def c21_11:Code:=(cR c21_10)
noncomputable def c21_12:Code:=(cR c21_11)
noncomputable def o21_19:Array Oper:=rO (cL c21_12)
noncomputable def c21_13:Code:=(cR c21_12)
noncomputable def c21_14:Code:=(cR c21_13)
noncomputable def o21_25:Array Oper:=rO (cL c21_14)
noncomputable def c21_15:Code:=(cL c21_13)
noncomputable def o21_20:Array Oper:=rO (cL c21_15)
noncomputable def c21_16:Code:=(cR c21_15)
noncomputable def c21_17:Code:=(cL c21_16)
noncomputable def c21_18:Code:=(cL c21_17)
noncomputable def o21_21:Array Oper:=rO (cL c21_18)
noncomputable def c21_19:Code:=(cR c21_18)
noncomputable def c21_20:Code:=(cR c21_19)
noncomputable def c21_21:Code:=(cR c21_20)
noncomputable def o21_24:Array Oper:=rO c21_21
noncomputable def c21_22:Code:=(cL c21_20)
noncomputable def c21_23:Code:=(cL c21_22)
noncomputable def o21_22:Array Oper:=rO (cL c21_23)
noncomputable def c21_24:Code:=(cR c21_23)
noncomputable def o21_23:Array Oper:=rO c21_24
noncomputable def c21_25:Code:=(cL c21_19)
noncomputable def c21_26:Code:=(cL c21_11)
noncomputable def o21_14:Array Oper:=rO (cL c21_26)
noncomputable def c21_27:Code:=(cR c21_26)
noncomputable def c21_28:Code:=(cL c21_27)
noncomputable def c21_29:Code:=(cL c21_28)
noncomputable def o21_15:Array Oper:=rO (cL c21_29)
noncomputable def c21_30:Code:=(cR c21_29)
noncomputable def c21_31:Code:=(cR c21_30)
noncomputable def c21_32:Code:=(cR c21_31)
noncomputable def o21_18:Array Oper:=rO c21_32
noncomputable def c21_33:Code:=(cL c21_31)
noncomputable def c21_34:Code:=(cL c21_33)
noncomputable def o21_16:Array Oper:=rO (cL c21_34)
noncomputable def c21_35:Code:=(cR c21_34)
noncomputable def o21_17:Array Oper:=rO c21_35
noncomputable def c21_36:Code:=(cL c21_30)
noncomputable def c21_37:Code:=(cL c21_9)
noncomputable def o21_11:Array Oper:=rO (cL c21_37)
noncomputable def c21_38:Code:=(cR c21_37)
noncomputable def c21_39:Code:=(cL c21_38)
noncomputable def o21_12:Array Oper:=rO (cL c21_39)
noncomputable def c21_40:Code:=(cL c21_4)
noncomputable def o21_5:Array Oper:=rO (cL c21_40)
noncomputable def c21_41:Code:=(cR c21_40)
noncomputable def c21_42:Code:=(cL c21_41)
noncomputable def o21_6:Array Oper:=rO (cL c21_42)
noncomputable def c21_43:Code:=(cL c21_2)
noncomputable def o21_2:Array Oper:=rO (cL c21_43)
noncomputable def c21_44:Code:=(cR c21_43)
noncomputable def c21_45:Code:=(cL c21_44)
noncomputable def o21_3:Array Oper:=rO (cL c21_45)
noncomputable def c21_14_s:=@s_reg Try.prog 101 V21 c21_14 .ret 25 o21_25 (fun N M G k e w =>
    M (e 10) fun t100 =>
    M t100 fun t4 =>
    k (Env.p e 4 t4) w) (by kernel_rfl) (by intros; kernel_rfl)
noncomputable def c21_21_s:=@s_rend Try.prog 101 V21 c21_21 24 o21_24 (fun N M G k e w =>
    N (xv (xbin BinOp.add 3 (Operand.tmp 90) (Operand.const (Value.int IntKind.i64 1)) (e 90) (Value.int IntKind.i64 1))) w fun t99 w =>
    M t99 fun t90 =>
    k (Env.p e 90 t90) w) (by kernel_rfl) (by intros; kernel_rfl)
noncomputable def c21_24_s:=@s_rend Try.prog 101 V21 c21_24 23 o21_23 (fun N M G k e w =>
    M (e 10) fun t93 =>
    M (e 0) fun t94 =>
    M (e 14) fun t95 =>
    M (e 7) fun t96 =>
    N (xcall (Value.func (Fn.func 39) #[] #[]) [t94, t95, t96, (Value.int IntKind.i64 1)]) w fun t97 w =>
    N (builtin Builtin.append #[22, 22] 22 ([false, false]).toArray ([t93, t97]).toArray) w fun t98 w =>
    M t98 fun t10 =>
    k (Env.p e 10 t10) w) (by kernel_rfl) (by intros; kernel_rfl)
noncomputable def c21_23_s:=@s_reg Try.prog 101 V21 c21_23 c21_24 22 o21_22 (fun N M G k e w =>
    M (e 90) fun t92 =>
    M t92 fun t14 =>
    k (Env.p e 14 t14) w) (by kernel_rfl) (by intros; kernel_rfl)
noncomputable def c21_22_s:=@s_block Try.prog 101 V21 c21_22 c21_23 3 (by kernel_rfl)
noncomputable def c21_20_s:=@s_seq Try.prog 101 V21 c21_20 c21_21 c21_22 (by kernel_rfl)
noncomputable def c21_25_s:=@s_cond Try.prog 101 V21 c21_25 (.exit 2) 91 .skip (by kernel_rfl) (by kernel_rfl)
noncomputable def c21_19_s:=@s_seq Try.prog 101 V21 c21_19 c21_20 c21_25 (by kernel_rfl)
noncomputable def c21_18_s:=@s_reg Try.prog 101 V21 c21_18 c21_19 21 o21_21 (fun N M G k e w =>
    N (xv (xbin BinOp.lss 3 (Operand.tmp 90) (Operand.tmp 89) (e 90) (e 89))) w fun t91 w =>
    k (Env.p e 91 t91) w) (by kernel_rfl) (by intros; kernel_rfl)
noncomputable def c21_17_s:=@s_loop Try.prog 101 V21 c21_17 c21_18 (by kernel_rfl)
noncomputable def c21_16_s:=@s_block Try.prog 101 V21 c21_16 c21_17 2 (by kernel_rfl)
noncomputable def c21_15_s:=@s_reg Try.prog 101 V21 c21_15 c21_16 20 o21_20 (fun N M G k e w =>
    M (e 0) fun t85 =>
    N (xnil t85) w fun t86 w =>
    N (xv (Instr.fieldAt 66 t86 0)) w fun t87 w =>
    N (xv (Instr.fieldAt 28 t87 0)) w fun t88 w =>
    N (xv (Instr.loadAt 3 t88)) w fun t89 w =>
    M (Value.int IntKind.i64 0) fun t90 =>
    k (Env.p (Env.p e 89 t89) 90 t90) w) (by kernel_rfl) (by intros; kernel_rfl)
noncomputable def c21_13_s:=@s_seq Try.prog 101 V21 c21_13 c21_14 c21_15 (by kernel_rfl)
noncomputable def c21_12_s:=@s_reg Try.prog 101 V21 c21_12 c21_13 19 o21_19 (fun N M G k e w =>
    M (e 0) fun t79 =>
    N (xnil t79) w fun t80 w =>
    N (xv (Instr.fieldAt 66 t80 2)) w fun t81 w =>
    N (xv (Instr.loadAt 62 t81)) w fun t82 w =>
    M (e 11) fun t83 =>
    N (xcall (Value.func (Fn.func 38) #[] #[]) [t82, t83]) w fun t84 w =>
    k e w) (by kernel_rfl) (by intros; kernel_rfl)
noncomputable def c21_32_s:=@s_rend Try.prog 101 V21 c21_32 18 o21_18 (fun N M G k e w =>
    N (xv (xbin BinOp.add 3 (Operand.tmp 69) (Operand.const (Value.int IntKind.i64 1)) (e 69) (Value.int IntKind.i64 1))) w fun t78 w =>
    M t78 fun t69 =>
    k (Env.p e 69 t69) w) (by kernel_rfl) (by intros; kernel_rfl)
noncomputable def c21_35_s:=@s_rend Try.prog 101 V21 c21_35 17 o21_17 (fun N M G k e w =>
    M (e 11) fun t73 =>
    N (xv (Instr.fieldAt 57 (e 13) 0)) w fun t74 w =>
    N (xv (Instr.loadAt 9 t74)) w fun t75 w =>
    N (xv (Instr.buildSlice 38 1 ([(0, t75)]).toArray)) w fun t76 w =>
    N (builtin Builtin.append #[38, 38] 38 ([false, false]).toArray ([t73, t76]).toArray) w fun t77 w =>
    M t77 fun t11 =>
    k (Env.p e 11 t11) w) (by kernel_rfl) (by intros; kernel_rfl)
noncomputable def c21_34_s:=@s_reg Try.prog 101 V21 c21_34 c21_35 16 o21_16 (fun N M G k e w =>
    N (xv (Instr.indexAt 37 (e 67) (e 69))) w fun t71 w =>
    N (xv (Instr.loadAt 57 t71)) w fun t72 w =>
    N (xv (Instr.alloc 57 true (.tuple #[]))) w fun t13 w =>
    N (xu (Instr.storeAt 57 t13 t72)) w fun _ w =>
    k (Env.p e 13 t13) w) (by kernel_rfl) (by intros; kernel_rfl)
noncomputable def c21_33_s:=@s_block Try.prog 101 V21 c21_33 c21_34 1 (by kernel_rfl)
noncomputable def c21_31_s:=@s_seq Try.prog 101 V21 c21_31 c21_32 c21_33 (by kernel_rfl)
noncomputable def c21_36_s:=@s_cond Try.prog 101 V21 c21_36 (.exit 0) 70 .skip (by kernel_rfl) (by kernel_rfl)
noncomputable def c21_30_s:=@s_seq Try.prog 101 V21 c21_30 c21_31 c21_36 (by kernel_rfl)
noncomputable def c21_29_s:=@s_reg Try.prog 101 V21 c21_29 c21_30 15 o21_15 (fun N M G k e w =>
    N (xv (xbin BinOp.lss 3 (Operand.tmp 69) (Operand.tmp 68) (e 69) (e 68))) w fun t70 w =>
    k (Env.p e 70 t70) w) (by kernel_rfl) (by intros; kernel_rfl)
noncomputable def c21_28_s:=@s_loop Try.prog 101 V21 c21_28 c21_29 (by kernel_rfl)
noncomputable def c21_27_s:=@s_block Try.prog 101 V21 c21_27 c21_28 0 (by kernel_rfl)
noncomputable def c21_26_s:=@s_reg Try.prog 101 V21 c21_26 c21_27 14 o21_14 (fun N M G k e w =>
    N (xv (Instr.fieldAt 40 (e 3) 12)) w fun t66 w =>
    N (xv (Instr.loadAt 37 t66)) w fun t67 w =>
    N (builtin Builtin.len #[37] 3 ([false]).toArray ([t67]).toArray) w fun t68 w =>
    M (Value.int IntKind.i64 0) fun t69 =>
    k (Env.p (Env.p (Env.p e 67 t67) 68 t68) 69 t69) w) (by kernel_rfl) (by intros; kernel_rfl)
noncomputable def c21_11_s:=@s_seq Try.prog 101 V21 c21_11 c21_12 c21_26 (by kernel_rfl)
noncomputable def c21_10_s:=@s_reg Try.prog 101 V21 c21_10 c21_11 13 o21_13 (fun N M G k e w =>
    M (Value.slice none 0 0) fun t11 =>
    k (Env.p e 11 t11) w) (by kernel_rfl) (by intros; kernel_rfl)
noncomputable def c21_39_s:=@s_reg Try.prog 101 V21 c21_39 .ret 12 o21_12 (fun N M G k e w =>
    M (e 10) fun t65 =>
    M t65 fun t4 =>
    k (Env.p e 4 t4) w) (by kernel_rfl) (by intros; kernel_rfl)
noncomputable def c21_38_s:=@s_cond Try.prog 101 V21 c21_38 .skip 64 c21_39 (by kernel_rfl) (by kernel_rfl)
noncomputable def c21_37_s:=@s_reg Try.prog 101 V21 c21_37 c21_38 11 o21_11 (fun N M G k e w =>
    M (e 8) fun t63 =>
    N (xv (xbin BinOp.neq 36 (Operand.tmp 63) (Operand.const (Value.int IntKind.i64 0)) t63 (Value.int IntKind.i64 0))) w fun t64 w =>
    k (Env.p e 64 t64) w) (by kernel_rfl) (by intros; kernel_rfl)
noncomputable def c21_9_s:=@s_seq Try.prog 101 V21 c21_9 c21_10 c21_37 (by kernel_rfl)
noncomputable def c21_8_s:=@s_reg Try.prog 101 V21 c21_8 c21_9 10 o21_10 (fun N M G k e w =>
    M (e 6) fun t59 =>
    N (xv (Instr.loadAt 71 (e 9))) w fun t60 w =>
    N (xcall t59 [t60]) w fun t61 w =>
    N (xv (Instr.buildSlice 22 1 ([(0, t61)]).toArray)) w fun t62 w =>
    M t62 fun t10 =>
    k (Env.p e 10 t10) w) (by kernel_rfl) (by intros; kernel_rfl)
noncomputable def c21_7_s:=@s_drw Try.prog 101 V21 c21_7 c21_8 9 o21_9 b21_9 8 (fun N T M G H Y k e w =>
    M (e 0) fun t52 =>
    T (FrX none w) (xnil t52) fun t53 =>
    T (FrX none w) (xv (Instr.fieldAt 66 t53 3)) fun t54 =>
    T (FrX (some []) w) (xv (Instr.loadAt 64 t54)) fun t55 =>
    T (FrX none w) (xv (Instr.fieldAt 40 (e 3) 3)) fun t56 =>
    T (FrX (some []) w) (xv (Instr.loadAt 3 t56)) fun t57 =>
    T (FrX (some []) w) (xv (Instr.loadAt 71 (e 9))) fun t58 =>
    N (xu (Instr.mapUpdate 64 t55 t57 t58)) w fun _ w7 =>
    k e w7) (by kernel_rfl) (by kernel_rfl) (by kernel_rfl) (by intros; kernel_rfl)
noncomputable def c21_6_s:=@s_reg Try.prog 101 V21 c21_6 c21_7 8 o21_8 (fun N M G k e w =>
    N (xv (Instr.fieldAt 40 (e 3) 5)) w fun t47 w =>
    N (xv (Instr.loadAt 3 t47)) w fun t48 w =>
    M (e 7) fun t49 =>
    M (e 8) fun t50 =>
    N (xv (Instr.build 71 ([(0, t48), (1, t49), (2, t50)]).toArray)) w fun t51 w =>
    N (xv (Instr.alloc 71 true (.tuple #[]))) w fun t9 w =>
    N (xu (Instr.storeAt 71 t9 t51)) w fun _ w =>
    k (Env.p e 9 t9) w) (by kernel_rfl) (by intros; kernel_rfl)
noncomputable def c21_5_s:=@s_drw Try.prog 101 V21 c21_5 c21_6 7 o21_7 b21_7 12 (fun N T M G H Y k e w =>
    M (e 0) fun t38 =>
    T (FrX none w) (xnil t38) fun t39 =>
    T (FrX none w) (xv (Instr.fieldAt 66 t39 1)) fun t40 =>
    T (FrX (some []) w) (xv (Instr.loadAt 60 t40)) fun t41 =>
    T (FrX none w) (xv (Instr.fieldAt 40 (e 3) 12)) fun t42 =>
    T (FrX (some []) w) (xv (Instr.loadAt 37 t42)) fun t43 =>
    N (xcall (Value.func (Fn.func 37) #[] #[]) [t41, t43]) w fun t44 w6 =>
    M t44 fun t37 =>
    T (FrX none w6) (xv (Instr.extract t37 0)) fun t45 =>
    T (FrX none w6) (xv (Instr.extract t37 1)) fun t46 =>
    M t45 fun t7 =>
    M t46 fun t8 =>
    k (Env.p (Env.p e 7 t7) 8 t8) w6) (by kernel_rfl) (by kernel_rfl) (by kernel_rfl) (by intros; kernel_rfl)
noncomputable def c21_42_s:=@s_reg Try.prog 101 V21 c21_42 .ret 6 o21_6 (fun N M G k e w =>
    M (e 6) fun t33 =>
    N (xv (Instr.loadAt 71 (e 5))) w fun t34 w =>
    N (xcall t33 [t34]) w fun t35 w =>
    N (xv (Instr.buildSlice 22 1 ([(0, t35)]).toArray)) w fun t36 w =>
    M t36 fun t4 =>
    k (Env.p e 4 t4) w) (by kernel_rfl) (by intros; kernel_rfl)
noncomputable def c21_41_s:=@s_cond Try.prog 101 V21 c21_41 .skip 32 c21_42 (by kernel_rfl) (by kernel_rfl)
noncomputable def c21_40_s:=@s_reg Try.prog 101 V21 c21_40 c21_41 5 o21_5 (fun N M G k e w =>
    N (xv (Instr.fieldAt 40 (e 3) 5)) w fun t28 w =>
    N (xv (Instr.loadAt 3 t28)) w fun t29 w =>
    N (xv (Instr.fieldAt 71 (e 5) 0)) w fun t30 w =>
    N (xv (Instr.loadAt 3 t30)) w fun t31 w =>
    N (xv (xbin BinOp.eql 3 (Operand.tmp 29) (Operand.tmp 31) t29 t31)) w fun t32 w =>
    k (Env.p e 32 t32) w) (by kernel_rfl) (by intros; kernel_rfl)
noncomputable def c21_4_s:=@s_seq Try.prog 101 V21 c21_4 c21_5 c21_40 (by kernel_rfl)
noncomputable def c21_3_s:=@s_reg Try.prog 101 V21 c21_3 c21_4 4 o21_4 (fun N M G k e w =>
    N (xv (Instr.makeFunc (Fn.func 36) ([]).toArray ([(e 3)]).toArray)) w fun t27 w =>
    M t27 fun t6 =>
    k (Env.p e 6 t6) w) (by kernel_rfl) (by intros; kernel_rfl)
noncomputable def c21_45_s:=@s_reg Try.prog 101 V21 c21_45 .ret 3 o21_3 (fun N M G k e w =>
    M (Value.slice none 0 0) fun t4 =>
    k (Env.p e 4 t4) w) (by kernel_rfl) (by intros; kernel_rfl)
noncomputable def c21_44_s:=@s_cond Try.prog 101 V21 c21_44 .skip 26 c21_45 (by kernel_rfl) (by kernel_rfl)
noncomputable def c21_43_s:=@s_reg Try.prog 101 V21 c21_43 c21_44 2 o21_2 (fun N M G k e w =>
    N (xv (Instr.fieldAt 40 (e 3) 5)) w fun t22 w =>
    N (xv (Instr.loadAt 3 t22)) w fun t23 w =>
    N (xv (Instr.fieldAt 71 (e 5) 0)) w fun t24 w =>
    N (xv (Instr.loadAt 3 t24)) w fun t25 w =>
    N (xv (xbin BinOp.lss 3 (Operand.tmp 23) (Operand.tmp 25) t23 t25)) w fun t26 w =>
    k (Env.p e 26 t26) w) (by kernel_rfl) (by intros; kernel_rfl)
noncomputable def c21_2_s:=@s_seq Try.prog 101 V21 c21_2 c21_3 c21_43 (by kernel_rfl)
noncomputable def c21_1_s:=@s_drw Try.prog 101 V21 c21_1 c21_2 1 o21_1 b21_1 9 (fun N T M G H Y k e w =>
    M (e 0) fun t15 =>
    T (FrX none w) (xnil t15) fun t16 =>
    T (FrX none w) (xv (Instr.fieldAt 66 t16 3)) fun t17 =>
    T (FrX (some []) w) (xv (Instr.loadAt 64 t17)) fun t18 =>
    T (FrX none w) (xv (Instr.fieldAt 40 (e 3) 3)) fun t19 =>
    T (FrX (some []) w) (xv (Instr.loadAt 3 t19)) fun t20 =>
    T (FrX (some []) w) (xv (Instr.lookup 64 t18 t20 false)) fun t21 =>
    N (xv (Instr.alloc 71 true (.tuple #[]))) w fun t5 w7 =>
    Y true (xv (Instr.lookup 64 t18 t20 false)) t21 w w7 ∧ (Y true (xv (Instr.loadAt 3 t19)) t20 w w7 ∧ (Y true (xv (Instr.loadAt 64 t17)) t18 w w7 ∧ (N (xu (Instr.storeAt 71 t5 t21)) w7 fun _ w8 =>
    k (Env.p e 5 t5) w8)))) (by kernel_rfl) (by kernel_rfl) (by kernel_rfl) (by intros; kernel_rfl)
noncomputable def c21_s:=@s_reg Try.prog 101 V21 c21 c21_1 0 o21_0 (fun N M G k e w =>
    N (xv (Instr.box 40 (e 1))) w fun t3 w =>
    M (Value.slice none 0 0) fun t4 =>
    k (Env.p (Env.p e 3 t3) 4 t4) w) (by kernel_rfl) (by intros; kernel_rfl)
theorem call21 {a0 a1 : Value} {w : World} {R : Value → World → Prop} (h : W3 Try.prog 101 V21 c21 (retQ Try.prog [.tmp 4] R) (argE [a0, a1]) w) : CallsN Try.prog 21 [a0, a1] w R :=
  callsN_of_W3 (c := c21) (rs := [.tmp 4]) V21 Try.ntmps21 (by rw [Try.results21]) mixed Try.func21 (by kernel_rfl) (by kernel_rfl) (by kernel_rfl) (by kernel_rfl) (by simp) h
noncomputable def w3t_21:=w3t Try.prog 101 V21
noncomputable def hk21 := And.intro @c21_14_s <| And.intro @c21_21_s <| And.intro @c21_24_s <| And.intro @c21_23_s <| And.intro @c21_22_s <| And.intro @c21_20_s <| And.intro @c21_25_s <| And.intro @c21_19_s <| And.intro @c21_18_s <| And.intro @c21_17_s <| And.intro @c21_16_s <| And.intro @c21_15_s <| And.intro @c21_13_s <| And.intro @c21_12_s <| And.intro @c21_32_s <| And.intro @c21_35_s <| And.intro @c21_34_s <| And.intro @c21_33_s <| And.intro @c21_31_s <| And.intro @c21_36_s <| And.intro @c21_30_s <| And.intro @c21_29_s <| And.intro @c21_28_s <| And.intro @c21_27_s <| And.intro @c21_26_s <| And.intro @c21_11_s <| And.intro @c21_10_s <| And.intro @c21_39_s <| And.intro @c21_38_s <| And.intro @c21_37_s <| And.intro @c21_9_s <| And.intro @c21_8_s <| And.intro @c21_7_s <| And.intro @c21_6_s <| And.intro @c21_5_s <| And.intro @c21_42_s <| And.intro @c21_41_s <| And.intro @c21_40_s <| And.intro @c21_4_s <| And.intro @c21_3_s <| And.intro @c21_45_s <| And.intro @c21_44_s <| And.intro @c21_43_s <| And.intro @c21_2_s <| And.intro @c21_1_s <| And.intro @c21_s <| @w3t_21
-- K21: ↓hk21
/-! ### (*vouch/origin.Origin) . commit$1 -/
def V36 : Nat → Bool := fun i => [0, 1, 2, 3].elem i
noncomputable def c36:Code:=(Try.f36.body.getD .skip)
noncomputable def o36_0:Array Oper:=rO (cL c36)
noncomputable def c36_1:Code:=(cR c36)
noncomputable def o36_1:Array Oper:=rO (cL c36_1)
noncomputable def c36_1_s:=@s_reg Try.prog 13 V36 c36_1 .ret 1 o36_1 (fun N M G k e w =>
    N (xv (Instr.fieldAt 40 (e 1) 3)) w fun t4 w =>
    N (xv (Instr.loadAt 3 t4)) w fun t5 w =>
    N (xv (Instr.fieldAt 40 (e 1) 5)) w fun t6 w =>
    N (xv (Instr.loadAt 3 t6)) w fun t7 w =>
    N (xv (Instr.fieldAt 71 (e 2) 1)) w fun t8 w =>
    N (xv (Instr.loadAt 2 t8)) w fun t9 w =>
    N (xv (Instr.fieldAt 71 (e 2) 2)) w fun t10 w =>
    N (xv (Instr.loadAt 36 t10)) w fun t11 w =>
    N (xv (Instr.build 40 ([(0, (Value.int IntKind.i64 2)), (3, t5), (5, t7), (11, t9), (10, t11)]).toArray)) w fun t12 w =>
    N (xu (Instr.storeAt 40 (e 3) t12)) w fun _ w =>
    k e w) (by kernel_rfl) (by intros; kernel_rfl)
noncomputable def c36_s:=@s_reg Try.prog 13 V36 c36 c36_1 0 o36_0 (fun N M G k e w =>
    N (xv (Instr.box 71 (e 0))) w fun t2 w =>
    N (xv (Instr.alloc 40 true (.tuple #[]))) w fun t3 w =>
    k (Env.p (Env.p e 2 t2) 3 t3) w) (by kernel_rfl) (by intros; kernel_rfl)
theorem call36 {a0 a1 : Value} {w : World} {R : Value → World → Prop} (h : W3 Try.prog 13 V36 c36 (retQ Try.prog [.cell 3 40] R) (argE [a0, a1]) w) : CallsN Try.prog 36 [a0, a1] w R :=
  callsN_of_W3 (c := c36) (rs := [.cell 3 40]) V36 Try.ntmps36 (by rw [Try.results36]) mixed Try.func36 (by kernel_rfl) (by kernel_rfl) (by kernel_rfl) (by kernel_rfl) (by simp) h
noncomputable def w3t_36:=w3t Try.prog 13 V36
noncomputable def hk36 := And.intro @c36_1_s <| And.intro @c36_s <| @w3t_36
-- K36: ↓hk36
/-! ### (*vouch/origin.Origin) . read -/
def V22 : Nat → Bool := fun i => [0, 1, 3, 4, 5, 6, 7, 8, 9, 21, 42].elem i
noncomputable def c22:Code:=(Try.f22.body.getD .skip)
noncomputable def o22_0:Array Oper:=rO (cL c22)
noncomputable def c22_1:Code:=(cR c22)
noncomputable def o22_1:Array Oper:=rO (cL c22_1)
noncomputable def c22_2:Code:=(cR c22_1)
noncomputable def o22_2:Array Oper:=rO (cL c22_2)
noncomputable def c22_3:Code:=(cR c22_2)
noncomputable def c22_4:Code:=(cR c22_3)
noncomputable def o22_6:Array Oper:=rO (cL c22_4)
noncomputable def b22_6:List Row:=[(0, 0, 1, 27, true), (1, 1, 67108864, 28, true), (2, 3, 134217728, 29, true), (4, 7, 268435456, 30, true), (0, 0, 8, 31, true), (16, 16, 1073741824, 32, true), (0, 0, 8, 33, true), (64, 64, 4294967296, 34, true), (128, 192, 8589934592, 35, true), (256, 448, 17179869184, 36, true), (0, 0, 32, 37, true), (1536, 1984, 103079215104, 38, true), (2088, 4095, 140123308032, 39, false), (4096, 8191, 274877906944, 26, true), (8192, 16383, 33554432, 40, true), (8192, 16383, 33554432, 41, true), (0, 0, 0, 8, false), (98303, 98303, 549755814016, 0, false), (262143, 262143, 1099511627776, 9, true)]
noncomputable def c22_5:Code:=(cR c22_4)
noncomputable def c22_6:Code:=(cR c22_5)
noncomputable def o22_10:Array Oper:=rO (cL c22_6)
noncomputable def b22_10:List Row:=[(0, 0, 128, 48, true), (1, 1, 140737488355328, 49, true), (0, 0, 128, 50, true), (4, 4, 562949953421312, 51, true), (0, 0, 128, 52, true), (16, 16, 2251799813685248, 53, true), (0, 0, 32, 54, true), (64, 64, 9007199254740992, 55, true), (160, 240, 22517998136852480, 56, true), (264, 508, 37154696925806592, 57, true), (3, 3, 64, 58, true), (1027, 1027, 144396663052566528, 0, false), (4095, 4095, 64, 59, true), (8191, 8191, 360287970189639680, 0, false)]
noncomputable def c22_7:Code:=(cR c22_6)
noncomputable def o22_11:Array Oper:=rO (cL c22_7)
noncomputable def b22_11:List Row:=[(0, 0, 8, 60, true), (1, 1, 576460752303423488, 61, true), (0, 0, 1, 62, true), (4, 4, 2305843009213693952, 63, true), (8, 12, 4611686018427387904, 64, true), (16, 28, 9223372036854775808, 65, true), (32, 60, 18446744073709551616, 66, true), (66, 127, 38046409652025950208, 67, false), (0, 0, 8, 68, true), (256, 256, 147573952589676412928, 69, true), (0, 0, 128, 70, true), (1024, 1024, 590295810358705651712, 71, true), (0, 0, 128, 72, true), (4096, 4096, 2361183241434822606848, 73, true), (0, 0, 128, 74, true), (16384, 16384, 9444732965739290427392, 75, true), (40960, 61440, 23611832414348226068480, 76, true), (0, 0, 32, 77, true), (199296, 262143, 114886322091063087464448, 78, true), (0, 0, 0, 10, false), (1048575, 1048575, 151115727451828646838784, 0, false)]
noncomputable def c22_8:Code:=(cR c22_7)
noncomputable def o22_12:Array Oper:=rO (cL c22_8)
noncomputable def c22_9:Code:=(cL c22_5)
noncomputable def o22_7:Array Oper:=rO (cL c22_9)
noncomputable def c22_10:Code:=(cR c22_9)
noncomputable def c22_11:Code:=(cL c22_10)
noncomputable def o22_8:Array Oper:=rO (cL c22_11)
noncomputable def c22_12:Code:=(cR c22_11)
noncomputable def o22_9:Array Oper:=rO (cL c22_12)
noncomputable def c22_13:Code:=(cL c22_3)
noncomputable def o22_3:Array Oper:=rO (cL c22_13)
noncomputable def c22_14:Code:=(cR c22_13)
noncomputable def c22_15:Code:=(cL c22_14)
noncomputable def o22_4:Array Oper:=rO (cL c22_15)
noncomputable def c22_16:Code:=(cR c22_15)
noncomputable def o22_5:Array Oper:=rO (cL c22_16)
noncomputable def c22_8_s:=@s_reg Try.prog 81 V22 c22_8 .ret 12 o22_12 (fun N M G k e w =>
    N (xv (Instr.loadAt 40 (e 6))) w fun t78 w =>
    N (xv (Instr.loadAt 40 (e 9))) w fun t79 w =>
    N (xv (Instr.buildSlice 22 2 ([(0, t78), (1, t79)]).toArray)) w fun t80 w =>
    M t80 fun t4 =>
    k (Env.p e 4 t4) w) (by kernel_rfl) (by intros; kernel_rfl)
noncomputable def c22_7_s:=@s_drw Try.prog 81 V22 c22_7 c22_8 11 o22_11 b22_11 21 (fun N T M G H Y k e w =>
    T (FrX none w) (xv (Instr.fieldAt 40 (e 3) 6)) fun t59 =>
    T (FrX (some []) w) (xv (Instr.loadAt 9 t59)) fun t60 =>
    M (e 0) fun t61 =>
    T (FrX none w) (xnil t61) fun t62 =>
    T (FrX none w) (xv (Instr.fieldAt 66 t62 0)) fun t63 =>
    T (FrX none w) (xv (Instr.fieldAt 28 t63 0)) fun t64 =>
    T (FrX (some []) w) (xv (Instr.loadAt 3 t64)) fun t65 =>
    T (FrX none w) (xv (Instr.fieldAt 40 (e 3) 6)) fun t67 =>
    T (FrX (some []) w) (xv (Instr.loadAt 9 t67)) fun t68 =>
    T (FrX none w) (xv (Instr.fieldAt 50 (e 7) 1)) fun t69 =>
    T (FrX (some []) w) (xv (Instr.loadAt 35 t69)) fun t70 =>
    T (FrX none w) (xv (Instr.fieldAt 50 (e 7) 2)) fun t71 =>
    T (FrX (some []) w) (xv (Instr.loadAt 2 t71)) fun t72 =>
    T (FrX none w) (xv (Instr.fieldAt 50 (e 7) 3)) fun t73 =>
    T (FrX (some []) w) (xv (Instr.loadAt 2 t73)) fun t74 =>
    T (FrX none w) (xv (Instr.build 33 ([(0, t72), (1, t74)]).toArray)) fun t75 =>
    M (e 5) fun t76 =>
    (N (xcall (Value.func (Fn.func 40) #[] #[]) [t60, t65]) w fun t66 w7 =>
    Y true (xv (Instr.loadAt 2 t73)) t74 w w7 ∧ (Y true (xv (Instr.loadAt 2 t71)) t72 w w7 ∧ (Y true (xv (Instr.loadAt 35 t69)) t70 w w7 ∧ (Y true (xv (Instr.loadAt 9 t67)) t68 w w7 ∧ (T (FrX none w7) (xv (Instr.build 40 ([(0, (Value.int IntKind.i64 7)), (1, t66), (6, t68), (8, t70), (7, t75), (11, t76)]).toArray)) fun t77 =>
    N (xv (Instr.alloc 40 true (.tuple #[]))) w7 fun t9 w19 =>
    Y true (xv (Instr.loadAt 2 t73)) t74 w w19 ∧ (Y true (xv (Instr.loadAt 2 t71)) t72 w w19 ∧ (Y true (xv (Instr.loadAt 35 t69)) t70 w w19 ∧ (Y true (xv (Instr.loadAt 9 t67)) t68 w w19 ∧ (N (xu (Instr.storeAt 40 t9 t77)) w19 fun _ w20 =>
    k (Env.p e 9 t9) w20))))))))) ∧ (N (xv (Instr.alloc 40 true (.tuple #[]))) w fun t9 w19 =>
    Y true (xv (Instr.loadAt 2 t73)) t74 w w19 ∧ (Y true (xv (Instr.loadAt 2 t71)) t72 w w19 ∧ (Y true (xv (Instr.loadAt 35 t69)) t70 w w19 ∧ (Y true (xv (Instr.loadAt 9 t67)) t68 w w19 ∧ (Y true (xv (Instr.loadAt 3 t64)) t65 w w19 ∧ (Y true (xv (Instr.loadAt 9 t59)) t60 w w19 ∧ (N (xcall (Value.func (Fn.func 40) #[] #[]) [t60, t65]) w19 fun t66 w7 =>
    Y true (xv (Instr.loadAt 2 t73)) t74 w w7 ∧ (Y true (xv (Instr.loadAt 2 t71)) t72 w w7 ∧ (Y true (xv (Instr.loadAt 35 t69)) t70 w w7 ∧ (Y true (xv (Instr.loadAt 9 t67)) t68 w w7 ∧ (T (FrX none w7) (xv (Instr.build 40 ([(0, (Value.int IntKind.i64 7)), (1, t66), (6, t68), (8, t70), (7, t75), (11, t76)]).toArray)) fun t77 =>
    N (xu (Instr.storeAt 40 t9 t77)) w7 fun _ w20 =>
    k (Env.p e 9 t9) w20)))))))))))) (by kernel_rfl) (by kernel_rfl) (by kernel_rfl) (by intros; kernel_rfl)
noncomputable def c22_6_s:=@s_drw Try.prog 81 V22 c22_6 c22_7 10 o22_10 b22_10 14 (fun N T M G H Y k e w =>
    T (FrX none w) (xv (Instr.fieldAt 50 (e 7) 1)) fun t47 =>
    T (FrX (some []) w) (xv (Instr.loadAt 35 t47)) fun t48 =>
    T (FrX none w) (xv (Instr.fieldAt 50 (e 7) 2)) fun t49 =>
    T (FrX (some []) w) (xv (Instr.loadAt 2 t49)) fun t50 =>
    T (FrX none w) (xv (Instr.fieldAt 50 (e 7) 3)) fun t51 =>
    T (FrX (some []) w) (xv (Instr.loadAt 2 t51)) fun t52 =>
    M (e 5) fun t53 =>
    T (FrX none w) (xv (xbin BinOp.add 2 (Operand.tmp 53) (Operand.const (Value.int IntKind.i64 1)) t53 (Value.int IntKind.i64 1))) fun t54 =>
    T (FrX (some []) w) (builtin Builtin.min #[2, 2] 2 ([false, false]).toArray ([t52, t54]).toArray) fun t55 =>
    T (FrX none w) (xv (Instr.build 33 ([(0, t50), (1, t55)]).toArray)) fun t56 =>
    T (FrX none w) (xv (Instr.fieldAt 40 (e 6) 8)) fun t57 =>
    N (xu (Instr.storeAt 35 t57 t48)) w fun _ w11 =>
    Y true (builtin Builtin.min #[2, 2] 2 ([false, false]).toArray ([t52, t54]).toArray) t55 w w11 ∧ (Y true (xv (Instr.loadAt 2 t51)) t52 w w11 ∧ (Y true (xv (Instr.loadAt 2 t49)) t50 w w11 ∧ (T (FrX none w11) (xv (Instr.fieldAt 40 (e 6) 7)) fun t58 =>
    N (xu (Instr.storeAt 33 t58 t56)) w11 fun _ w13 =>
    k e w13)))) (by kernel_rfl) (by kernel_rfl) (by kernel_rfl) (by intros; kernel_rfl)
noncomputable def c22_12_s:=@s_reg Try.prog 81 V22 c22_12 .ret 9 o22_9 (fun N M G k e w =>
    N (xv (Instr.loadAt 40 (e 6))) w fun t45 w =>
    N (xv (Instr.buildSlice 22 1 ([(0, t45)]).toArray)) w fun t46 w =>
    M t46 fun t4 =>
    k (Env.p e 4 t4) w) (by kernel_rfl) (by intros; kernel_rfl)
noncomputable def c22_11_s:=@s_reg Try.prog 81 V22 c22_11 c22_12 8 o22_8 (fun N M G k e w =>
    M (e 8) fun t43 =>
    N (xv (Instr.fieldAt 40 (e 6) 10)) w fun t44 w =>
    N (xu (Instr.storeAt 36 t44 t43)) w fun _ w =>
    k e w) (by kernel_rfl) (by intros; kernel_rfl)
noncomputable def c22_10_s:=@s_cond Try.prog 81 V22 c22_10 .skip 42 c22_11 (by kernel_rfl) (by kernel_rfl)
noncomputable def c22_9_s:=@s_reg Try.prog 81 V22 c22_9 c22_10 7 o22_7 (fun N M G k e w =>
    M (e 8) fun t41 =>
    N (xv (xbin BinOp.neq 36 (Operand.tmp 41) (Operand.const (Value.int IntKind.i64 0)) t41 (Value.int IntKind.i64 0))) w fun t42 w =>
    k (Env.p e 42 t42) w) (by kernel_rfl) (by intros; kernel_rfl)
noncomputable def c22_5_s:=@s_seq Try.prog 81 V22 c22_5 c22_6 c22_9 (by kernel_rfl)
noncomputable def c22_4_s:=@s_drw Try.prog 81 V22 c22_4 c22_5 6 o22_6 b22_6 19 (fun N T M G H Y k e w =>
    M (e 0) fun t26 =>
    T (FrX none w) (xnil t26) fun t27 =>
    T (FrX none w) (xv (Instr.fieldAt 66 t27 1)) fun t28 =>
    T (FrX (some []) w) (xv (Instr.loadAt 60 t28)) fun t29 =>
    T (FrX none w) (xv (Instr.fieldAt 40 (e 3) 6)) fun t30 =>
    T (FrX (some []) w) (xv (Instr.loadAt 9 t30)) fun t31 =>
    T (FrX none w) (xv (Instr.fieldAt 40 (e 3) 7)) fun t32 =>
    T (FrX none w) (xv (Instr.fieldAt 33 t32 1)) fun t33 =>
    T (FrX (some []) w) (xv (Instr.loadAt 2 t33)) fun t34 =>
    T (FrX none w) (xv (xbin BinOp.sub 2 (Operand.tmp 34) (Operand.const (Value.int IntKind.i64 1)) t34 (Value.int IntKind.i64 1))) fun t35 =>
    M (e 5) fun t36 =>
    T (FrX (some []) w) (builtin Builtin.min #[2, 2] 2 ([false, false]).toArray ([t35, t36]).toArray) fun t37 =>
    (N (xcall (Value.func (Fn.func 27) #[] #[]) [t29, t31, t37]) w fun t38 w12 =>
    M t38 fun t25 =>
    T (FrX none w12) (xv (Instr.extract t25 0)) fun t39 =>
    T (FrX none w12) (xv (Instr.extract t25 1)) fun t40 =>
    N (xv (Instr.alloc 50 true (.tuple #[]))) w12 fun t7 w16 =>
    N (xu (Instr.storeAt 50 t7 t39)) w16 fun _ w17 =>
    M t40 fun t8 =>
    k (Env.p (Env.p e 7 t7) 8 t8) w17) ∧ (N (xv (Instr.alloc 50 true (.tuple #[]))) w fun t7 w16 =>
    Y true (builtin Builtin.min #[2, 2] 2 ([false, false]).toArray ([t35, t36]).toArray) t37 w w16 ∧ (Y true (xv (Instr.loadAt 2 t33)) t34 w w16 ∧ (Y true (xv (Instr.loadAt 9 t30)) t31 w w16 ∧ (Y true (xv (Instr.loadAt 60 t28)) t29 w w16 ∧ (N (xcall (Value.func (Fn.func 27) #[] #[]) [t29, t31, t37]) w16 fun t38 w12 =>
    M t38 fun t25 =>
    T (FrX none w12) (xv (Instr.extract t25 0)) fun t39 =>
    T (FrX none w12) (xv (Instr.extract t25 1)) fun t40 =>
    N (xu (Instr.storeAt 50 t7 t39)) w12 fun _ w17 =>
    M t40 fun t8 =>
    k (Env.p (Env.p e 7 t7) 8 t8) w17)))))) (by kernel_rfl) (by kernel_rfl) (by kernel_rfl) (by intros; kernel_rfl)
noncomputable def c22_16_s:=@s_reg Try.prog 81 V22 c22_16 .ret 5 o22_5 (fun N M G k e w =>
    N (xv (Instr.loadAt 40 (e 6))) w fun t23 w =>
    N (xv (Instr.buildSlice 22 1 ([(0, t23)]).toArray)) w fun t24 w =>
    M t24 fun t4 =>
    k (Env.p e 4 t4) w) (by kernel_rfl) (by intros; kernel_rfl)
noncomputable def c22_15_s:=@s_reg Try.prog 81 V22 c22_15 c22_16 4 o22_4 (fun N M G k e w =>
    N (xv (Instr.fieldAt 40 (e 6) 10)) w fun t22 w =>
    N (xu (Instr.storeAt 36 t22 (Value.int IntKind.i64 21))) w fun _ w =>
    k e w) (by kernel_rfl) (by intros; kernel_rfl)
noncomputable def c22_14_s:=@s_cond Try.prog 81 V22 c22_14 .skip 21 c22_15 (by kernel_rfl) (by kernel_rfl)
noncomputable def c22_13_s:=@s_reg Try.prog 81 V22 c22_13 c22_14 3 o22_3 (fun N M G k e w =>
    N (xv (Instr.fieldAt 40 (e 3) 7)) w fun t17 w =>
    N (xv (Instr.fieldAt 33 t17 0)) w fun t18 w =>
    N (xv (Instr.loadAt 2 t18)) w fun t19 w =>
    M (e 5) fun t20 =>
    N (xv (xbin BinOp.gtr 2 (Operand.tmp 19) (Operand.tmp 20) t19 t20)) w fun t21 w =>
    k (Env.p e 21 t21) w) (by kernel_rfl) (by intros; kernel_rfl)
noncomputable def c22_3_s:=@s_seq Try.prog 81 V22 c22_3 c22_4 c22_13 (by kernel_rfl)
noncomputable def c22_2_s:=@s_reg Try.prog 81 V22 c22_2 c22_3 2 o22_2 (fun N M G k e w =>
    N (xv (Instr.fieldAt 40 (e 3) 4)) w fun t12 w =>
    N (xv (Instr.loadAt 3 t12)) w fun t13 w =>
    N (xv (Instr.fieldAt 40 (e 3) 5)) w fun t14 w =>
    N (xv (Instr.loadAt 3 t14)) w fun t15 w =>
    N (xv (Instr.build 40 ([(0, (Value.int IntKind.i64 6)), (4, t13), (5, t15)]).toArray)) w fun t16 w =>
    N (xv (Instr.alloc 40 true (.tuple #[]))) w fun t6 w =>
    N (xu (Instr.storeAt 40 t6 t16)) w fun _ w =>
    k (Env.p e 6 t6) w) (by kernel_rfl) (by intros; kernel_rfl)
noncomputable def c22_1_s:=@s_reg Try.prog 81 V22 c22_1 c22_2 1 o22_1 (fun N M G k e w =>
    M (e 0) fun t10 =>
    N (xcall (Value.func (Fn.func 11) #[] #[]) [t10]) w fun t11 w =>
    M t11 fun t5 =>
    k (Env.p e 5 t5) w) (by kernel_rfl) (by intros; kernel_rfl)
noncomputable def c22_s:=@s_reg Try.prog 81 V22 c22 c22_1 0 o22_0 (fun N M G k e w =>
    N (xv (Instr.box 40 (e 1))) w fun t3 w =>
    M (Value.slice none 0 0) fun t4 =>
    k (Env.p (Env.p e 3 t3) 4 t4) w) (by kernel_rfl) (by intros; kernel_rfl)
theorem call22 {a0 a1 : Value} {w : World} {R : Value → World → Prop} (h : W3 Try.prog 81 V22 c22 (retQ Try.prog [.tmp 4] R) (argE [a0, a1]) w) : CallsN Try.prog 22 [a0, a1] w R :=
  callsN_of_W3 (c := c22) (rs := [.tmp 4]) V22 Try.ntmps22 (by rw [Try.results22]) mixed Try.func22 (by kernel_rfl) (by kernel_rfl) (by kernel_rfl) (by kernel_rfl) (by simp) h
noncomputable def w3t_22:=w3t Try.prog 81 V22
noncomputable def hk22 := And.intro @c22_8_s <| And.intro @c22_7_s <| And.intro @c22_6_s <| And.intro @c22_12_s <| And.intro @c22_11_s <| And.intro @c22_10_s <| And.intro @c22_9_s <| And.intro @c22_5_s <| And.intro @c22_4_s <| And.intro @c22_16_s <| And.intro @c22_15_s <| And.intro @c22_14_s <| And.intro @c22_13_s <| And.intro @c22_3_s <| And.intro @c22_2_s <| And.intro @c22_1_s <| And.intro @c22_s <| @w3t_22
-- K22: ↓hk22
/-! ### (*vouch/origin.Origin) . resend -/
def V23 : Nat → Bool := fun i => [0, 1, 3, 4, 12].elem i
noncomputable def c23:Code:=(Try.f23.body.getD .skip)
noncomputable def o23_0:Array Oper:=rO (cL c23)
noncomputable def c23_1:Code:=(cR c23)
noncomputable def c23_2:Code:=(cR c23_1)
noncomputable def o23_3:Array Oper:=rO (cL c23_2)
noncomputable def c23_3:Code:=(cL c23_1)
noncomputable def o23_1:Array Oper:=rO (cL c23_3)
noncomputable def b23_1:List Row:=[(0, 0, 8, 6, true), (1, 1, 32, 7, true), (0, 0, 1, 8, true), (4, 4, 128, 9, true), (8, 12, 256, 10, true), (16, 28, 512, 11, true), (32, 60, 1024, 12, true), (66, 127, 2112, 13, true)]
noncomputable def c23_4:Code:=(cR c23_3)
noncomputable def c23_5:Code:=(cL c23_4)
noncomputable def o23_2:Array Oper:=rO (cL c23_5)
noncomputable def c23_2_s:=@s_reg Try.prog 19 V23 c23_2 .ret 3 o23_3 (fun N M G k e w =>
    M (e 0) fun t13 =>
    N (xv (Instr.fieldAt 40 (e 3) 1)) w fun t14 w =>
    N (xv (Instr.loadAt 3 t14)) w fun t15 w =>
    N (xv (Instr.fieldAt 40 (e 3) 11)) w fun t16 w =>
    N (xv (Instr.loadAt 2 t16)) w fun t17 w =>
    N (xcall (Value.func (Fn.func 39) #[] #[]) [t13, t15, t17, (Value.int IntKind.i64 16)]) w fun t18 w =>
    M t18 fun t4 =>
    k (Env.p e 4 t4) w) (by kernel_rfl) (by intros; kernel_rfl)
noncomputable def c23_5_s:=@s_reg Try.prog 19 V23 c23_5 .ret 2 o23_2 (fun N M G k e w =>
    M (Value.slice none 0 0) fun t4 =>
    k (Env.p e 4 t4) w) (by kernel_rfl) (by intros; kernel_rfl)
noncomputable def c23_4_s:=@s_cond Try.prog 19 V23 c23_4 .skip 12 c23_5 (by kernel_rfl) (by kernel_rfl)
noncomputable def c23_3_s:=@s_drw Try.prog 19 V23 c23_3 c23_4 1 o23_1 b23_1 8 (fun N T M G H Y k e w =>
    T (FrX none w) (xv (Instr.fieldAt 40 (e 3) 1)) fun t5 =>
    T (FrX (some []) w) (xv (Instr.loadAt 3 t5)) fun t6 =>
    M (e 0) fun t7 =>
    T (FrX none w) (xnil t7) fun t8 =>
    T (FrX none w) (xv (Instr.fieldAt 66 t8 0)) fun t9 =>
    T (FrX none w) (xv (Instr.fieldAt 28 t9 0)) fun t10 =>
    T (FrX (some []) w) (xv (Instr.loadAt 3 t10)) fun t11 =>
    T (FrX none w) (xv (xbin BinOp.geq 3 (Operand.tmp 6) (Operand.tmp 11) t6 t11)) fun t12 =>
    k (Env.p e 12 t12) w) (by kernel_rfl) (by kernel_rfl) (by kernel_rfl) (by intros; kernel_rfl)
noncomputable def c23_1_s:=@s_seq Try.prog 19 V23 c23_1 c23_2 c23_3 (by kernel_rfl)
noncomputable def c23_s:=@s_reg Try.prog 19 V23 c23 c23_1 0 o23_0 (fun N M G k e w =>
    N (xv (Instr.box 40 (e 1))) w fun t3 w =>
    M (Value.slice none 0 0) fun t4 =>
    k (Env.p (Env.p e 3 t3) 4 t4) w) (by kernel_rfl) (by intros; kernel_rfl)
theorem call23 {a0 a1 : Value} {w : World} {R : Value → World → Prop} (h : W3 Try.prog 19 V23 c23 (retQ Try.prog [.tmp 4] R) (argE [a0, a1]) w) : CallsN Try.prog 23 [a0, a1] w R :=
  callsN_of_W3 (c := c23) (rs := [.tmp 4]) V23 Try.ntmps23 (by rw [Try.results23]) mixed Try.func23 (by kernel_rfl) (by kernel_rfl) (by kernel_rfl) (by kernel_rfl) (by simp) h
noncomputable def w3t_23:=w3t Try.prog 19 V23
noncomputable def hk23 := And.intro @c23_2_s <| And.intro @c23_5_s <| And.intro @c23_4_s <| And.intro @c23_3_s <| And.intro @c23_1_s <| And.intro @c23_s <| @w3t_23
-- K23: ↓hk23
/-! ### (*vouch/origin.Origin) . record -/
def V39 : Nat → Bool := fun i => [0, 1, 2, 3, 8, 9, 11, 18, 19, 20, 21].elem i
noncomputable def c39:Code:=(Try.f39.body.getD .skip)
noncomputable def o39_0:Array Oper:=rO (cL c39)
noncomputable def c39_1:Code:=(cR c39)
noncomputable def o39_1:Array Oper:=rO (cL c39_1)
noncomputable def c39_2:Code:=(cR c39_1)
noncomputable def c39_3:Code:=(cR c39_2)
noncomputable def o39_7:Array Oper:=rO (cL c39_3)
noncomputable def c39_4:Code:=(cL c39_2)
noncomputable def o39_2:Array Oper:=rO (cL c39_4)
noncomputable def c39_5:Code:=(cR c39_4)
noncomputable def c39_6:Code:=(cL c39_5)
noncomputable def c39_7:Code:=(cL c39_6)
noncomputable def o39_3:Array Oper:=rO (cL c39_7)
noncomputable def c39_8:Code:=(cR c39_7)
noncomputable def c39_9:Code:=(cR c39_8)
noncomputable def c39_10:Code:=(cR c39_9)
noncomputable def o39_6:Array Oper:=rO c39_10
noncomputable def c39_11:Code:=(cL c39_9)
noncomputable def c39_12:Code:=(cL c39_11)
noncomputable def o39_4:Array Oper:=rO (cL c39_12)
noncomputable def c39_13:Code:=(cR c39_12)
noncomputable def o39_5:Array Oper:=rO c39_13
noncomputable def c39_14:Code:=(cL c39_8)
noncomputable def c39_3_s:=@s_reg Try.prog 35 V39 c39_3 .ret 7 o39_7 (fun N M G k e w =>
    M (e 9) fun t34 =>
    M t34 fun t8 =>
    k (Env.p e 8 t8) w) (by kernel_rfl) (by intros; kernel_rfl)
noncomputable def c39_10_s:=@s_rend Try.prog 35 V39 c39_10 6 o39_6 (fun N M G k e w =>
    N (xv (xbin BinOp.add 3 (Operand.tmp 20) (Operand.const (Value.int IntKind.i64 1)) (e 20) (Value.int IntKind.i64 1))) w fun t33 w =>
    M t33 fun t20 =>
    k (Env.p e 20 t20) w) (by kernel_rfl) (by intros; kernel_rfl)
noncomputable def c39_13_s:=@s_rend Try.prog 35 V39 c39_13 5 o39_5 (fun N M G k e w =>
    M (e 9) fun t24 =>
    M (e 1) fun t25 =>
    N (xv (Instr.fieldAt 88 (e 11) 0)) w fun t26 w =>
    N (xv (Instr.loadAt 2 t26)) w fun t27 w =>
    N (xv (Instr.fieldAt 88 (e 11) 1)) w fun t28 w =>
    N (xv (Instr.loadAt 38 t28)) w fun t29 w =>
    N (xv (Instr.build 40 ([(0, (Value.int IntKind.i64 8)), (1, t25), (11, t27), (13, t29)]).toArray)) w fun t30 w =>
    N (xv (Instr.buildSlice 22 1 ([(0, t30)]).toArray)) w fun t31 w =>
    N (builtin Builtin.append #[22, 22] 22 ([false, false]).toArray ([t24, t31]).toArray) w fun t32 w =>
    M t32 fun t9 =>
    k (Env.p e 9 t9) w) (by kernel_rfl) (by intros; kernel_rfl)
noncomputable def c39_12_s:=@s_reg Try.prog 35 V39 c39_12 c39_13 4 o39_4 (fun N M G k e w =>
    N (xv (Instr.indexAt 45 (e 18) (e 20))) w fun t22 w =>
    N (xv (Instr.loadAt 88 t22)) w fun t23 w =>
    N (xv (Instr.alloc 88 true (.tuple #[]))) w fun t11 w =>
    N (xu (Instr.storeAt 88 t11 t23)) w fun _ w =>
    k (Env.p e 11 t11) w) (by kernel_rfl) (by intros; kernel_rfl)
noncomputable def c39_11_s:=@s_block Try.prog 35 V39 c39_11 c39_12 1 (by kernel_rfl)
noncomputable def c39_9_s:=@s_seq Try.prog 35 V39 c39_9 c39_10 c39_11 (by kernel_rfl)
noncomputable def c39_14_s:=@s_cond Try.prog 35 V39 c39_14 (.exit 0) 21 .skip (by kernel_rfl) (by kernel_rfl)
noncomputable def c39_8_s:=@s_seq Try.prog 35 V39 c39_8 c39_9 c39_14 (by kernel_rfl)
noncomputable def c39_7_s:=@s_reg Try.prog 35 V39 c39_7 c39_8 3 o39_3 (fun N M G k e w =>
    N (xv (xbin BinOp.lss 3 (Operand.tmp 20) (Operand.tmp 19) (e 20) (e 19))) w fun t21 w =>
    k (Env.p e 21 t21) w) (by kernel_rfl) (by intros; kernel_rfl)
noncomputable def c39_6_s:=@s_loop Try.prog 35 V39 c39_6 c39_7 (by kernel_rfl)
noncomputable def c39_5_s:=@s_block Try.prog 35 V39 c39_5 c39_6 0 (by kernel_rfl)
noncomputable def c39_4_s:=@s_reg Try.prog 35 V39 c39_4 c39_5 2 o39_2 (fun N M G k e w =>
    M (e 0) fun t12 =>
    N (xnil t12) w fun t13 w =>
    N (xv (Instr.fieldAt 66 t13 2)) w fun t14 w =>
    N (xv (Instr.loadAt 62 t14)) w fun t15 w =>
    M (e 2) fun t16 =>
    M (e 3) fun t17 =>
    N (xcall (Value.func (Fn.func 25) #[] #[]) [t15, t16, t17]) w fun t18 w =>
    N (builtin Builtin.len #[45] 3 ([false]).toArray ([t18]).toArray) w fun t19 w =>
    M (Value.int IntKind.i64 0) fun t20 =>
    k (Env.p (Env.p (Env.p e 18 t18) 19 t19) 20 t20) w) (by kernel_rfl) (by intros; kernel_rfl)
noncomputable def c39_2_s:=@s_seq Try.prog 35 V39 c39_2 c39_3 c39_4 (by kernel_rfl)
noncomputable def c39_1_s:=@s_reg Try.prog 35 V39 c39_1 c39_2 1 o39_1 (fun N M G k e w =>
    M (Value.slice none 0 0) fun t9 =>
    k (Env.p e 9 t9) w) (by kernel_rfl) (by intros; kernel_rfl)
noncomputable def c39_s:=@s_reg Try.prog 35 V39 c39 c39_1 0 o39_0 (fun N M G k e w =>
    M (Value.slice none 0 0) fun t8 =>
    k (Env.p e 8 t8) w) (by kernel_rfl) (by intros; kernel_rfl)
theorem call39 {a0 a1 a2 a3 : Value} {w : World} {R : Value → World → Prop} (h : W3 Try.prog 35 V39 c39 (retQ Try.prog [.tmp 8] R) (argE [a0, a1, a2, a3]) w) : CallsN Try.prog 39 [a0, a1, a2, a3] w R :=
  callsN_of_W3 (c := c39) (rs := [.tmp 8]) V39 Try.ntmps39 (by rw [Try.results39]) mixed Try.func39 (by kernel_rfl) (by kernel_rfl) (by kernel_rfl) (by kernel_rfl) (by simp) h
noncomputable def w3t_39:=w3t Try.prog 35 V39
noncomputable def hk39 := And.intro @c39_3_s <| And.intro @c39_10_s <| And.intro @c39_13_s <| And.intro @c39_12_s <| And.intro @c39_11_s <| And.intro @c39_9_s <| And.intro @c39_14_s <| And.intro @c39_8_s <| And.intro @c39_7_s <| And.intro @c39_6_s <| And.intro @c39_5_s <| And.intro @c39_4_s <| And.intro @c39_2_s <| And.intro @c39_1_s <| And.intro @c39_s <| @w3t_39
-- K39: ↓hk39
/-! ### vouch/fact.Held -/
def V17 : Nat → Bool := fun i => [0, 1, 2, 3].elem i
noncomputable def c17:Code:=(Try.f17.body.getD .skip)
noncomputable def o17_0:Array Oper:=rO (cL c17)
noncomputable def c17_1:Code:=(cR c17)
noncomputable def o17_1:Array Oper:=rO (cL c17_1)
noncomputable def c17_2:Code:=(cR c17_1)
noncomputable def o17_2:Array Oper:=rO (cL c17_2)
noncomputable def b17_2:List Row:=[(0, 0, 8, 5, true), (0, 0, 2, 6, true), (2, 2, 32, 7, true), (5, 7, 80, 8, false), (0, 0, 8, 9, true), (0, 0, 2, 10, true), (32, 32, 512, 11, true), (88, 127, 1280, 12, false), (0, 0, 8, 13, true), (0, 0, 2, 14, true), (512, 512, 8192, 15, true), (1408, 2047, 20480, 16, false), (0, 0, 8, 17, true), (0, 0, 2, 18, true), (8192, 8192, 131072, 19, true), (22528, 32767, 327680, 20, false), (0, 0, 8, 21, true), (0, 0, 2, 22, true), (131072, 131072, 2097152, 23, true), (360448, 524287, 5242880, 24, false), (0, 0, 8, 25, true), (0, 0, 2, 26, true), (2097152, 2097152, 33554432, 27, true), (5767168, 8388607, 83886080, 28, false), (0, 0, 8, 29, true), (0, 0, 2, 30, true), (33554432, 33554432, 536870912, 31, true), (92274688, 134217727, 1342177280, 32, false), (0, 0, 8, 33, true), (0, 0, 2, 34, true), (536870912, 536870912, 8589934592, 35, true), (1476395008, 2147483647, 21474836480, 36, false), (2290649224, 4294967295, 36650387584, 37, true), (8589934591, 8589934591, 68719476740, 0, false)]
noncomputable def c17_2_s:=@s_drw Try.prog 37 V17 c17_2 .ret 2 o17_2 b17_2 34 (fun N T M G H Y k e w =>
    M (e 3) fun t4 =>
    T (FrX none w) (xv (Instr.fieldAt 28 (e 1) 0)) fun t5 =>
    T (FrX (some []) w) (xv (Instr.loadAt 3 t5)) fun t6 =>
    M (e 3) fun t8 =>
    T (FrX none w) (xv (Instr.fieldAt 28 (e 1) 1)) fun t9 =>
    T (FrX (some []) w) (xv (Instr.loadAt 3 t9)) fun t10 =>
    M (e 3) fun t12 =>
    T (FrX none w) (xv (Instr.fieldAt 28 (e 1) 2)) fun t13 =>
    T (FrX (some []) w) (xv (Instr.loadAt 3 t13)) fun t14 =>
    M (e 3) fun t16 =>
    T (FrX none w) (xv (Instr.fieldAt 28 (e 1) 3)) fun t17 =>
    T (FrX (some []) w) (xv (Instr.loadAt 3 t17)) fun t18 =>
    M (e 3) fun t20 =>
    T (FrX none w) (xv (Instr.fieldAt 28 (e 1) 4)) fun t21 =>
    T (FrX (some []) w) (xv (Instr.loadAt 3 t21)) fun t22 =>
    M (e 3) fun t24 =>
    T (FrX none w) (xv (Instr.fieldAt 28 (e 1) 5)) fun t25 =>
    T (FrX (some []) w) (xv (Instr.loadAt 3 t25)) fun t26 =>
    M (e 3) fun t28 =>
    T (FrX none w) (xv (Instr.fieldAt 28 (e 1) 6)) fun t29 =>
    T (FrX (some []) w) (xv (Instr.loadAt 3 t29)) fun t30 =>
    M (e 3) fun t32 =>
    T (FrX none w) (xv (Instr.fieldAt 28 (e 1) 7)) fun t33 =>
    T (FrX (some []) w) (xv (Instr.loadAt 3 t33)) fun t34 =>
    N (xcall t4 [t6, (Value.int IntKind.i64 8), (Value.int IntKind.i64 1)]) w fun t7 w3 =>
    Y true (xv (Instr.loadAt 3 t33)) t34 w w3 ∧ (Y true (xv (Instr.loadAt 3 t29)) t30 w w3 ∧ (Y true (xv (Instr.loadAt 3 t25)) t26 w w3 ∧ (Y true (xv (Instr.loadAt 3 t21)) t22 w w3 ∧ (Y true (xv (Instr.loadAt 3 t17)) t18 w w3 ∧ (Y true (xv (Instr.loadAt 3 t13)) t14 w w3 ∧ (Y true (xv (Instr.loadAt 3 t9)) t10 w w3 ∧ (N (xcall t8 [t10, (Value.int IntKind.i64 1048576), (Value.int IntKind.i64 0)]) w3 fun t11 w7 =>
    Y true (xv (Instr.loadAt 3 t33)) t34 w w7 ∧ (Y true (xv (Instr.loadAt 3 t29)) t30 w w7 ∧ (Y true (xv (Instr.loadAt 3 t25)) t26 w w7 ∧ (Y true (xv (Instr.loadAt 3 t21)) t22 w w7 ∧ (Y true (xv (Instr.loadAt 3 t17)) t18 w w7 ∧ (Y true (xv (Instr.loadAt 3 t13)) t14 w w7 ∧ (N (xcall t12 [t14, (Value.int IntKind.i64 64), (Value.int IntKind.i64 1)]) w7 fun t15 w11 =>
    Y true (xv (Instr.loadAt 3 t33)) t34 w w11 ∧ (Y true (xv (Instr.loadAt 3 t29)) t30 w w11 ∧ (Y true (xv (Instr.loadAt 3 t25)) t26 w w11 ∧ (Y true (xv (Instr.loadAt 3 t21)) t22 w w11 ∧ (Y true (xv (Instr.loadAt 3 t17)) t18 w w11 ∧ (N (xcall t16 [t18, (Value.int IntKind.i64 256), (Value.int IntKind.i64 0)]) w11 fun t19 w15 =>
    Y true (xv (Instr.loadAt 3 t33)) t34 w w15 ∧ (Y true (xv (Instr.loadAt 3 t29)) t30 w w15 ∧ (Y true (xv (Instr.loadAt 3 t25)) t26 w w15 ∧ (Y true (xv (Instr.loadAt 3 t21)) t22 w w15 ∧ (N (xcall t20 [t22, (Value.int IntKind.i64 1024), (Value.int IntKind.i64 0)]) w15 fun t23 w19 =>
    Y true (xv (Instr.loadAt 3 t33)) t34 w w19 ∧ (Y true (xv (Instr.loadAt 3 t29)) t30 w w19 ∧ (Y true (xv (Instr.loadAt 3 t25)) t26 w w19 ∧ (N (xcall t24 [t26, (Value.int IntKind.i64 64), (Value.int IntKind.i64 1)]) w19 fun t27 w23 =>
    Y true (xv (Instr.loadAt 3 t33)) t34 w w23 ∧ (Y true (xv (Instr.loadAt 3 t29)) t30 w w23 ∧ (N (xcall t28 [t30, (Value.int IntKind.i64 256), (Value.int IntKind.i64 0)]) w23 fun t31 w27 =>
    Y true (xv (Instr.loadAt 3 t33)) t34 w w27 ∧ (N (xcall t32 [t34, (Value.int IntKind.i64 16), (Value.int IntKind.i64 0)]) w27 fun t35 w31 =>
    T (FrX none w31) (xv (Instr.build 28 ([(0, t7), (1, t11), (2, t15), (3, t19), (4, t23), (5, t27), (6, t31), (7, t35)]).toArray)) fun t36 =>
    N (xu (Instr.storeAt 28 (e 2) t36)) w31 fun _ w33 =>
    k e w33))))))))))))))))))))))))))))) (by kernel_rfl) (by kernel_rfl) (by kernel_rfl) (by intros; kernel_rfl)
noncomputable def c17_1_s:=@s_reg Try.prog 37 V17 c17_1 c17_2 1 o17_1 (fun N M G k e w =>
    M (Value.func (Fn.func 31) #[] #[]) fun t3 =>
    k (Env.p e 3 t3) w) (by kernel_rfl) (by intros; kernel_rfl)
noncomputable def c17_s:=@s_reg Try.prog 37 V17 c17 c17_1 0 o17_0 (fun N M G k e w =>
    N (xv (Instr.box 28 (e 0))) w fun t1 w =>
    N (xv (Instr.alloc 28 true (.tuple #[]))) w fun t2 w =>
    k (Env.p (Env.p e 1 t1) 2 t2) w) (by kernel_rfl) (by intros; kernel_rfl)
theorem call17 {a0 : Value} {w : World} {R : Value → World → Prop} (h : W3 Try.prog 37 V17 c17 (retQ Try.prog [.cell 2 28] R) (argE [a0]) w) : CallsN Try.prog 17 [a0] w R :=
  callsN_of_W3 (c := c17) (rs := [.cell 2 28]) V17 Try.ntmps17 (by rw [Try.results17]) mixed Try.func17 (by kernel_rfl) (by kernel_rfl) (by kernel_rfl) (by kernel_rfl) (by simp) h
noncomputable def w3t_17:=w3t Try.prog 37 V17
noncomputable def hk17 := And.intro @c17_2_s <| And.intro @c17_1_s <| And.intro @c17_s <| @w3t_17
-- K17: ↓hk17
/-! ### vouch/fact.Held$1 -/
def V31 : Nat → Bool := fun i => [0, 1, 2, 6].elem i
noncomputable def c31:Code:=(Try.f31.body.getD .skip)
noncomputable def o31_0:Array Oper:=rO (cL c31)
noncomputable def c31_1:Code:=(cR c31)
noncomputable def o31_1:Array Oper:=rO (cL c31_1)
noncomputable def c31_1_s:=@s_reg Try.prog 12 V31 c31_1 .ret 1 o31_1 (fun N M G k e w =>
    M (e 0) fun t7 =>
    M (e 2) fun t8 =>
    N (builtin Builtin.max #[3, 3] 3 ([false, false]).toArray ([t7, t8]).toArray) w fun t9 w =>
    M (e 1) fun t10 =>
    N (builtin Builtin.min #[3, 3] 3 ([false, false]).toArray ([t9, t10]).toArray) w fun t11 w =>
    M t11 fun t6 =>
    k (Env.p e 6 t6) w) (by kernel_rfl) (by intros; kernel_rfl)
noncomputable def c31_s:=@s_reg Try.prog 12 V31 c31 c31_1 0 o31_0 (fun N M G k e w =>
    M (Value.int IntKind.i64 0) fun t6 =>
    k (Env.p e 6 t6) w) (by kernel_rfl) (by intros; kernel_rfl)
theorem call31 {a0 a1 a2 : Value} {w : World} {R : Value → World → Prop} (h : W3 Try.prog 12 V31 c31 (retQ Try.prog [.tmp 6] R) (argE [a0, a1, a2]) w) : CallsN Try.prog 31 [a0, a1, a2] w R :=
  callsN_of_W3 (c := c31) (rs := [.tmp 6]) V31 Try.ntmps31 (by rw [Try.results31]) mixed Try.func31 (by kernel_rfl) (by kernel_rfl) (by kernel_rfl) (by kernel_rfl) (by simp) h
noncomputable def w3t_31:=w3t Try.prog 12 V31
noncomputable def hk31 := And.intro @c31_1_s <| And.intro @c31_s <| @w3t_31
-- K31: ↓hk31
/-! ### vouch/route.To -/
def V40 : Nat → Bool := fun i => [0, 1, 4, 10].elem i
noncomputable def c40:Code:=(Try.f40.body.getD .skip)
noncomputable def o40_0:Array Oper:=rO (cL c40)
noncomputable def c40_1:Code:=(cR c40)
noncomputable def c40_2:Code:=(cR c40_1)
noncomputable def o40_3:Array Oper:=rO (cL c40_2)
noncomputable def c40_3:Code:=(cL c40_1)
noncomputable def o40_1:Array Oper:=rO (cL c40_3)
noncomputable def c40_4:Code:=(cR c40_3)
noncomputable def c40_5:Code:=(cL c40_4)
noncomputable def o40_2:Array Oper:=rO (cL c40_5)
noncomputable def c40_2_s:=@s_reg Try.prog 17 V40 c40_2 .ret 3 o40_3 (fun N M G k e w =>
    M (e 0) fun t11 =>
    N (xcall (Value.func (Fn.func 62) #[] #[]) [t11]) w fun t12 w =>
    M (e 1) fun t13 =>
    N (xv (convert 3 112 t13)) w fun t14 w =>
    N (xv (xbin BinOp.rem 112 (Operand.tmp 12) (Operand.tmp 14) t12 t14)) w fun t15 w =>
    N (xv (convert 112 3 t15)) w fun t16 w =>
    M t16 fun t4 =>
    k (Env.p e 4 t4) w) (by kernel_rfl) (by intros; kernel_rfl)
noncomputable def c40_5_s:=@s_reg Try.prog 17 V40 c40_5 .ret 2 o40_2 (fun N M G k e w =>
    M (Value.int IntKind.i64 (-1)) fun t4 =>
    k (Env.p e 4 t4) w) (by kernel_rfl) (by intros; kernel_rfl)
noncomputable def c40_4_s:=@s_cond Try.prog 17 V40 c40_4 .skip 10 c40_5 (by kernel_rfl) (by kernel_rfl)
noncomputable def c40_3_s:=@s_reg Try.prog 17 V40 c40_3 c40_4 1 o40_1 (fun N M G k e w =>
    M (e 1) fun t5 =>
    N (xv (xbin BinOp.lss 3 (Operand.tmp 5) (Operand.const (Value.int IntKind.i64 1)) t5 (Value.int IntKind.i64 1))) w fun t6 w =>
    M t6 fun t7 =>
    G (isB t7 false) (fun K => M (e 1) fun v => K v w) (fun t8 w =>
    G (isB t7 false) (fun K => N (xv (xbin BinOp.gtr 3 (Operand.tmp 8) (Operand.const (Value.int IntKind.i64 8)) t8 (Value.int IntKind.i64 8))) w K) (fun t9 w =>
    N (xpick t7 (Value.bool true) t9) w fun t10 w =>
    k (Env.p e 10 t10) w) w) w) (by kernel_rfl) (by intros; kernel_rfl)
noncomputable def c40_1_s:=@s_seq Try.prog 17 V40 c40_1 c40_2 c40_3 (by kernel_rfl)
noncomputable def c40_s:=@s_reg Try.prog 17 V40 c40 c40_1 0 o40_0 (fun N M G k e w =>
    M (Value.int IntKind.i64 0) fun t4 =>
    k (Env.p e 4 t4) w) (by kernel_rfl) (by intros; kernel_rfl)
theorem call40 {a0 a1 : Value} {w : World} {R : Value → World → Prop} (h : W3 Try.prog 17 V40 c40 (retQ Try.prog [.tmp 4] R) (argE [a0, a1]) w) : CallsN Try.prog 40 [a0, a1] w R :=
  callsN_of_W3 (c := c40) (rs := [.tmp 4]) V40 Try.ntmps40 (by rw [Try.results40]) mixed Try.func40 (by kernel_rfl) (by kernel_rfl) (by kernel_rfl) (by kernel_rfl) (by simp) h
noncomputable def w3t_40:=w3t Try.prog 17 V40
noncomputable def hk40 := And.intro @c40_2_s <| And.intro @c40_5_s <| And.intro @c40_4_s <| And.intro @c40_3_s <| And.intro @c40_1_s <| And.intro @c40_s <| @w3t_40
-- K40: ↓hk40
/-! ### vouch/route.Hash -/
def V62 : Nat → Bool := fun i => [0, 2, 3, 4, 6, 7, 8].elem i
noncomputable def c62:Code:=(Try.f62.body.getD .skip)
noncomputable def o62_0:Array Oper:=rO (cL c62)
noncomputable def c62_1:Code:=(cR c62)
noncomputable def o62_1:Array Oper:=rO (cL c62_1)
noncomputable def c62_2:Code:=(cR c62_1)
noncomputable def c62_3:Code:=(cR c62_2)
noncomputable def o62_8:Array Oper:=rO (cL c62_3)
noncomputable def c62_4:Code:=(cL c62_2)
noncomputable def o62_2:Array Oper:=rO (cL c62_4)
noncomputable def c62_5:Code:=(cR c62_4)
noncomputable def c62_6:Code:=(cL c62_5)
noncomputable def c62_7:Code:=(cL c62_6)
noncomputable def o62_3:Array Oper:=rO (cL c62_7)
noncomputable def c62_8:Code:=(cR c62_7)
noncomputable def c62_9:Code:=(cR c62_8)
noncomputable def c62_10:Code:=(cR c62_9)
noncomputable def o62_7:Array Oper:=rO c62_10
noncomputable def c62_11:Code:=(cL c62_9)
noncomputable def c62_12:Code:=(cL c62_11)
noncomputable def o62_4:Array Oper:=rO (cL c62_12)
noncomputable def c62_13:Code:=(cR c62_12)
noncomputable def o62_5:Array Oper:=rO (cL c62_13)
noncomputable def c62_14:Code:=(cR c62_13)
noncomputable def o62_6:Array Oper:=rO c62_14
noncomputable def c62_15:Code:=(cL c62_8)
noncomputable def c62_3_s:=@s_reg Try.prog 20 V62 c62_3 .ret 8 o62_8 (fun N M G k e w =>
    M (e 3) fun t19 =>
    M t19 fun t2 =>
    k (Env.p e 2 t2) w) (by kernel_rfl) (by intros; kernel_rfl)
noncomputable def c62_10_s:=@s_rend Try.prog 20 V62 c62_10 7 o62_7 (fun N M G k e w =>
    N (xv (xbin BinOp.add 3 (Operand.tmp 7) (Operand.const (Value.int IntKind.i64 1)) (e 7) (Value.int IntKind.i64 1))) w fun t18 w =>
    M t18 fun t7 =>
    k (Env.p e 7 t7) w) (by kernel_rfl) (by intros; kernel_rfl)
noncomputable def c62_14_s:=@s_rend Try.prog 20 V62 c62_14 6 o62_6 (fun N M G k e w =>
    M (e 3) fun t16 =>
    N (xv (xbin BinOp.mul 112 (Operand.tmp 16) (Operand.const (Value.int IntKind.u64 1099511628211)) t16 (Value.int IntKind.u64 1099511628211))) w fun t17 w =>
    M t17 fun t3 =>
    k (Env.p e 3 t3) w) (by kernel_rfl) (by intros; kernel_rfl)
noncomputable def c62_13_s:=@s_reg Try.prog 20 V62 c62_13 c62_14 5 o62_5 (fun N M G k e w =>
    M (e 3) fun t10 =>
    M (e 0) fun t11 =>
    M (e 4) fun t12 =>
    N (xv (Instr.index 9 t11 t12)) w fun t13 w =>
    N (xv (convert 5 112 t13)) w fun t14 w =>
    N (xv (xbin BinOp.xor 112 (Operand.tmp 10) (Operand.tmp 14) t10 t14)) w fun t15 w =>
    M t15 fun t3 =>
    k (Env.p e 3 t3) w) (by kernel_rfl) (by intros; kernel_rfl)
noncomputable def c62_12_s:=@s_reg Try.prog 20 V62 c62_12 c62_13 4 o62_4 (fun N M G k e w =>
    M (e 7) fun t9 =>
    M t9 fun t4 =>
    k (Env.p e 4 t4) w) (by kernel_rfl) (by intros; kernel_rfl)
noncomputable def c62_11_s:=@s_block Try.prog 20 V62 c62_11 c62_12 1 (by kernel_rfl)
noncomputable def c62_9_s:=@s_seq Try.prog 20 V62 c62_9 c62_10 c62_11 (by kernel_rfl)
noncomputable def c62_15_s:=@s_cond Try.prog 20 V62 c62_15 (.exit 0) 8 .skip (by kernel_rfl) (by kernel_rfl)
noncomputable def c62_8_s:=@s_seq Try.prog 20 V62 c62_8 c62_9 c62_15 (by kernel_rfl)
noncomputable def c62_7_s:=@s_reg Try.prog 20 V62 c62_7 c62_8 3 o62_3 (fun N M G k e w =>
    N (xv (xbin BinOp.lss 3 (Operand.tmp 7) (Operand.tmp 6) (e 7) (e 6))) w fun t8 w =>
    k (Env.p e 8 t8) w) (by kernel_rfl) (by intros; kernel_rfl)
noncomputable def c62_6_s:=@s_loop Try.prog 20 V62 c62_6 c62_7 (by kernel_rfl)
noncomputable def c62_5_s:=@s_block Try.prog 20 V62 c62_5 c62_6 0 (by kernel_rfl)
noncomputable def c62_4_s:=@s_reg Try.prog 20 V62 c62_4 c62_5 2 o62_2 (fun N M G k e w =>
    M (e 0) fun t5 =>
    N (builtin Builtin.len #[9] 3 ([false]).toArray ([t5]).toArray) w fun t6 w =>
    M (Value.int IntKind.i64 0) fun t7 =>
    k (Env.p (Env.p e 6 t6) 7 t7) w) (by kernel_rfl) (by intros; kernel_rfl)
noncomputable def c62_2_s:=@s_seq Try.prog 20 V62 c62_2 c62_3 c62_4 (by kernel_rfl)
noncomputable def c62_1_s:=@s_reg Try.prog 20 V62 c62_1 c62_2 1 o62_1 (fun N M G k e w =>
    M (Value.int IntKind.u64 14695981039346656037) fun t3 =>
    k (Env.p e 3 t3) w) (by kernel_rfl) (by intros; kernel_rfl)
noncomputable def c62_s:=@s_reg Try.prog 20 V62 c62 c62_1 0 o62_0 (fun N M G k e w =>
    M (Value.int IntKind.u64 0) fun t2 =>
    k (Env.p e 2 t2) w) (by kernel_rfl) (by intros; kernel_rfl)
theorem call62 {a0 : Value} {w : World} {R : Value → World → Prop} (h : W3 Try.prog 20 V62 c62 (retQ Try.prog [.tmp 2] R) (argE [a0]) w) : CallsN Try.prog 62 [a0] w R :=
  callsN_of_W3 (c := c62) (rs := [.tmp 2]) V62 Try.ntmps62 (by rw [Try.results62]) mixed Try.func62 (by kernel_rfl) (by kernel_rfl) (by kernel_rfl) (by kernel_rfl) (by simp) h
noncomputable def w3t_62:=w3t Try.prog 20 V62
noncomputable def hk62 := And.intro @c62_3_s <| And.intro @c62_10_s <| And.intro @c62_14_s <| And.intro @c62_13_s <| And.intro @c62_12_s <| And.intro @c62_11_s <| And.intro @c62_9_s <| And.intro @c62_15_s <| And.intro @c62_8_s <| And.intro @c62_7_s <| And.intro @c62_6_s <| And.intro @c62_5_s <| And.intro @c62_4_s <| And.intro @c62_2_s <| And.intro @c62_1_s <| And.intro @c62_s <| @w3t_62
-- K62: ↓hk62
end
end Go.Proofs.Ytgloomahpjpiiaa
