/- The equations of the code of some functions, written by the printer gen3.py: each is checked by the kernel. -/
import Derived.Test.YtgloomahpjpiiaaQ0
import Derived.Test.YtgloomahpjpiiaaCI
set_option linter.unusedVariables false
set_option linter.unusedSimpArgs false
set_option maxRecDepth 100000
namespace Go.Proofs.Ytgloomahpjpiiaa
open Go.VW
noncomputable section
set_option linter.defProp false
variable {N : NT} {T : T3T} {M : MT} {G : GT} {H : HT} {Y : YT} {k : KT} {Q : Exit → Env → World → Prop} {e el eg : Env} {w u0 u1 u2 u3 u4 u5 u6 u7 u8 u9 : World}
/-! ### vouch/store.goodKey -/
def V43 : Nat → Bool := fun i => [0, 2].elem i
noncomputable def c43:Code:=(Try.f43.body.getD .skip)
noncomputable def o43_0:Array Oper:=rO (cL c43)
noncomputable def c43_1:Code:=(cR c43)
noncomputable def o43_1:Array Oper:=rO (cL c43_1)
noncomputable def c43_1_s:=@s_reg Try.prog 11 V43 c43_1 .ret 1 o43_1 (fun N M G k e w =>
    M (e 0) fun t3 =>
    N (builtin Builtin.len #[9] 3 ([false]).toArray ([t3]).toArray) w fun t4 w =>
    N (xv (xbin BinOp.geq 3 (Operand.tmp 4) (Operand.const (Value.int IntKind.i64 1)) t4 (Value.int IntKind.i64 1))) w fun t5 w =>
    M t5 fun t6 =>
    G (isB t6 true) (fun K => M (e 0) fun v => K v w) (fun t7 w =>
    G (isB t6 true) (fun K => N (builtin Builtin.len #[9] 3 ([false]).toArray ([t7]).toArray) w K) (fun t8 w =>
    G (isB t6 true) (fun K => N (xv (xbin BinOp.leq 3 (Operand.tmp 8) (Operand.const (Value.int IntKind.i64 32)) t8 (Value.int IntKind.i64 32))) w K) (fun t9 w =>
    N (xpick t6 t9 (Value.bool false)) w fun t10 w =>
    M t10 fun t2 =>
    k (Env.p e 2 t2) w) w) w) w) (by kernel_rfl) (by intros; kernel_rfl)
noncomputable def c43_s:=@s_reg Try.prog 11 V43 c43 c43_1 0 o43_0 (fun N M G k e w =>
    M (Value.bool false) fun t2 =>
    k (Env.p e 2 t2) w) (by kernel_rfl) (by intros; kernel_rfl)
theorem call43 {a0 : Value} {w : World} {R : Value → World → Prop} (h : W3 Try.prog 11 V43 c43 (retQ Try.prog [.tmp 2] R) (argE [a0]) w) : CallsN Try.prog 43 [a0] w R :=
  callsN_of_W3 (c := c43) (rs := [.tmp 2]) V43 Try.ntmps43 (by rw [Try.results43]) mixed Try.func43 (by kernel_rfl) (by kernel_rfl) (by kernel_rfl) (by kernel_rfl) (by simp) h
noncomputable def w3t_43:=w3t Try.prog 11 V43
noncomputable def hk43 := And.intro @c43_1_s <| And.intro @c43_s <| @w3t_43
-- K43: ↓hk43
/-! ### vouch/store.goodWrite -/
def V66 : Nat → Bool := fun i => [0, 1, 2].elem i
noncomputable def c66:Code:=(Try.f66.body.getD .skip)
noncomputable def o66_0:Array Oper:=rO (cL c66)
noncomputable def c66_1:Code:=(cR c66)
noncomputable def o66_1:Array Oper:=rO (cL c66_1)
noncomputable def c66_1_s:=@s_reg Try.prog 24 V66 c66_1 .ret 1 o66_1 (fun N M G k e w =>
    N (xv (Instr.fieldAt 57 (e 1) 0)) w fun t3 w =>
    N (xv (Instr.loadAt 9 t3)) w fun t4 w =>
    N (xcall (Value.func (Fn.func 43) #[] #[]) [t4]) w fun t5 w =>
    M t5 fun t6 =>
    G (isB t6 true) (fun K => N (xv (Instr.fieldAt 57 (e 1) 1)) w K) (fun t7 w =>
    G (isB t6 true) (fun K => N (xv (Instr.fieldAt 35 t7 1)) w K) (fun t8 w =>
    G (isB t6 true) (fun K => N (xv (Instr.loadAt 9 t8)) w K) (fun t9 w =>
    G (isB t6 true) (fun K => N (builtin Builtin.len #[9] 3 ([false]).toArray ([t9]).toArray) w K) (fun t10 w =>
    G (isB t6 true) (fun K => N (xv (xbin BinOp.leq 3 (Operand.tmp 10) (Operand.const (Value.int IntKind.i64 256)) t10 (Value.int IntKind.i64 256))) w K) (fun t11 w =>
    N (xpick t6 t11 (Value.bool false)) w fun t12 w =>
    M t12 fun t13 =>
    G (isB t13 true) (fun K => N (xv (Instr.fieldAt 57 (e 1) 1)) w K) (fun t14 w =>
    G (isB t13 true) (fun K => N (xv (Instr.fieldAt 35 t14 0)) w K) (fun t15 w =>
    G (isB t13 true) (fun K => N (xv (Instr.loadAt 4 t15)) w K) (fun t16 w =>
    G (isB t13 true) (fun K => M t16 fun v => K v w) (fun t17 w =>
    G (isB t17 false) (fun K => N (xv (Instr.fieldAt 57 (e 1) 1)) w K) (fun t18 w =>
    G (isB t17 false) (fun K => N (xv (Instr.fieldAt 35 t18 1)) w K) (fun t19 w =>
    G (isB t17 false) (fun K => N (xv (Instr.loadAt 9 t19)) w K) (fun t20 w =>
    G (isB t17 false) (fun K => N (xv (xbin BinOp.eql 9 (Operand.tmp 20) (Operand.const (Value.string ⟨#[]⟩)) t20 (Value.string ⟨#[]⟩))) w K) (fun t21 w =>
    G (isB t13 true) (fun K => N (xpick t17 (Value.bool true) t21) w K) (fun t22 w =>
    N (xpick t13 t22 (Value.bool false)) w fun t23 w =>
    M t23 fun t2 =>
    k (Env.p e 2 t2) w) w) w) w) w) w) w) w) w) w) w) w) w) w) w) (by kernel_rfl) (by intros; kernel_rfl)
noncomputable def c66_s:=@s_reg Try.prog 24 V66 c66 c66_1 0 o66_0 (fun N M G k e w =>
    N (xv (Instr.box 57 (e 0))) w fun t1 w =>
    M (Value.bool false) fun t2 =>
    k (Env.p (Env.p e 1 t1) 2 t2) w) (by kernel_rfl) (by intros; kernel_rfl)
theorem call66 {a0 : Value} {w : World} {R : Value → World → Prop} (h : W3 Try.prog 24 V66 c66 (retQ Try.prog [.tmp 2] R) (argE [a0]) w) : CallsN Try.prog 66 [a0] w R :=
  callsN_of_W3 (c := c66) (rs := [.tmp 2]) V66 Try.ntmps66 (by rw [Try.results66]) mixed Try.func66 (by kernel_rfl) (by kernel_rfl) (by kernel_rfl) (by kernel_rfl) (by simp) h
noncomputable def w3t_66:=w3t Try.prog 24 V66
noncomputable def hk66 := And.intro @c66_1_s <| And.intro @c66_s <| @w3t_66
-- K66: ↓hk66
/-! ### vouch/store.check -/
def V58 : Nat → Bool := fun i => [0, 2, 3, 4, 5, 6, 8, 16, 18, 19, 20, 21, 27, 44].elem i
noncomputable def c58:Code:=(Try.f58.body.getD .skip)
noncomputable def o58_0:Array Oper:=rO (cL c58)
noncomputable def c58_1:Code:=(cR c58)
noncomputable def c58_2:Code:=(cR c58_1)
noncomputable def o58_3:Array Oper:=rO (cL c58_2)
noncomputable def c58_3:Code:=(cR c58_2)
noncomputable def o58_4:Array Oper:=rO (cL c58_3)
noncomputable def c58_4:Code:=(cR c58_3)
noncomputable def c58_5:Code:=(cR c58_4)
noncomputable def c58_6:Code:=(cR c58_5)
noncomputable def o58_16:Array Oper:=rO (cL c58_6)
noncomputable def c58_7:Code:=(cL c58_5)
noncomputable def o58_14:Array Oper:=rO (cL c58_7)
noncomputable def c58_8:Code:=(cR c58_7)
noncomputable def c58_9:Code:=(cL c58_8)
noncomputable def o58_15:Array Oper:=rO (cL c58_9)
noncomputable def c58_10:Code:=(cL c58_4)
noncomputable def o58_5:Array Oper:=rO (cL c58_10)
noncomputable def c58_11:Code:=(cR c58_10)
noncomputable def c58_12:Code:=(cL c58_11)
noncomputable def c58_13:Code:=(cL c58_12)
noncomputable def o58_6:Array Oper:=rO (cL c58_13)
noncomputable def c58_14:Code:=(cR c58_13)
noncomputable def c58_15:Code:=(cR c58_14)
noncomputable def c58_16:Code:=(cR c58_15)
noncomputable def o58_13:Array Oper:=rO c58_16
noncomputable def c58_17:Code:=(cL c58_15)
noncomputable def c58_18:Code:=(cL c58_17)
noncomputable def o58_7:Array Oper:=rO (cL c58_18)
noncomputable def c58_19:Code:=(cR c58_18)
noncomputable def c58_20:Code:=(cR c58_19)
noncomputable def o58_10:Array Oper:=rO (cL c58_20)
noncomputable def c58_21:Code:=(cR c58_20)
noncomputable def o58_11:Array Oper:=rO (cL c58_21)
noncomputable def c58_22:Code:=(cR c58_21)
noncomputable def o58_12:Array Oper:=rO c58_22
noncomputable def c58_23:Code:=(cL c58_19)
noncomputable def o58_8:Array Oper:=rO (cL c58_23)
noncomputable def c58_24:Code:=(cR c58_23)
noncomputable def c58_25:Code:=(cL c58_24)
noncomputable def o58_9:Array Oper:=rO (cL c58_25)
noncomputable def c58_26:Code:=(cL c58_14)
noncomputable def c58_27:Code:=(cL c58_1)
noncomputable def o58_1:Array Oper:=rO (cL c58_27)
noncomputable def c58_28:Code:=(cR c58_27)
noncomputable def c58_29:Code:=(cL c58_28)
noncomputable def o58_2:Array Oper:=rO (cL c58_29)
noncomputable def c58_6_s:=@s_reg Try.prog 45 V58 c58_6 .ret 16 o58_16 (fun N M G k e w =>
    M (Value.int IntKind.i64 0) fun t2 =>
    k (Env.p e 2 t2) w) (by kernel_rfl) (by intros; kernel_rfl)
noncomputable def c58_9_s:=@s_reg Try.prog 45 V58 c58_9 .ret 15 o58_15 (fun N M G k e w =>
    M (Value.int IntKind.i64 22) fun t2 =>
    k (Env.p e 2 t2) w) (by kernel_rfl) (by intros; kernel_rfl)
noncomputable def c58_8_s:=@s_cond Try.prog 45 V58 c58_8 .skip 44 c58_9 (by kernel_rfl) (by kernel_rfl)
noncomputable def c58_7_s:=@s_reg Try.prog 45 V58 c58_7 c58_8 14 o58_14 (fun N M G k e w =>
    M (e 4) fun t44 =>
    k (Env.p e 44 t44) w) (by kernel_rfl) (by intros; kernel_rfl)
noncomputable def c58_5_s:=@s_seq Try.prog 45 V58 c58_5 c58_6 c58_7 (by kernel_rfl)
noncomputable def c58_16_s:=@s_rend Try.prog 45 V58 c58_16 13 o58_13 (fun N M G k e w =>
    N (xv (xbin BinOp.add 3 (Operand.tmp 20) (Operand.const (Value.int IntKind.i64 1)) (e 20) (Value.int IntKind.i64 1))) w fun t43 w =>
    M t43 fun t20 =>
    k (Env.p e 20 t20) w) (by kernel_rfl) (by intros; kernel_rfl)
noncomputable def c58_22_s:=@s_rend Try.prog 45 V58 c58_22 12 o58_12 (fun N M G k e w =>
    M (e 3) fun t39 =>
    N (xv (Instr.fieldAt 57 (e 6) 0)) w fun t40 w =>
    N (xv (Instr.loadAt 9 t40)) w fun t41 w =>
    M (e 5) fun t42 =>
    N (xu (Instr.mapUpdate 118 t39 t41 t42)) w fun _ w =>
    k e w) (by kernel_rfl) (by intros; kernel_rfl)
noncomputable def c58_21_s:=@s_reg Try.prog 45 V58 c58_21 c58_22 11 o58_11 (fun N M G k e w =>
    M (e 4) fun t35 =>
    M t35 fun t36 =>
    G (isB t36 false) (fun K => M (e 8) fun v => K v w) (fun t37 w =>
    N (xpick t36 (Value.bool true) t37) w fun t38 w =>
    M t38 fun t4 =>
    k (Env.p e 4 t4) w) w) (by kernel_rfl) (by intros; kernel_rfl)
noncomputable def c58_20_s:=@s_reg Try.prog 45 V58 c58_20 c58_21 10 o58_10 (fun N M G k e w =>
    M (e 3) fun t29 =>
    N (xv (Instr.fieldAt 57 (e 6) 0)) w fun t30 w =>
    N (xv (Instr.loadAt 9 t30)) w fun t31 w =>
    N (xv (Instr.lookup 118 t29 t31 true)) w fun t32 w =>
    M t32 fun t28 =>
    N (xv (Instr.extract t28 0)) w fun t33 w =>
    N (xv (Instr.extract t28 1)) w fun t34 w =>
    M t33 fun t7 =>
    M t34 fun t8 =>
    k (Env.p e 8 t8) w) (by kernel_rfl) (by intros; kernel_rfl)
noncomputable def c58_25_s:=@s_reg Try.prog 45 V58 c58_25 .ret 9 o58_9 (fun N M G k e w =>
    M (Value.int IntKind.i64 1) fun t2 =>
    k (Env.p e 2 t2) w) (by kernel_rfl) (by intros; kernel_rfl)
noncomputable def c58_24_s:=@s_cond Try.prog 45 V58 c58_24 .skip 27 c58_25 (by kernel_rfl) (by kernel_rfl)
noncomputable def c58_23_s:=@s_reg Try.prog 45 V58 c58_23 c58_24 8 o58_8 (fun N M G k e w =>
    N (xv (Instr.loadAt 57 (e 6))) w fun t25 w =>
    N (xcall (Value.func (Fn.func 66) #[] #[]) [t25]) w fun t26 w =>
    N (xv (Op.unary UnOp.not t26)) w fun t27 w =>
    k (Env.p e 27 t27) w) (by kernel_rfl) (by intros; kernel_rfl)
noncomputable def c58_19_s:=@s_seq Try.prog 45 V58 c58_19 c58_20 c58_23 (by kernel_rfl)
noncomputable def c58_18_s:=@s_reg Try.prog 45 V58 c58_18 c58_19 7 o58_7 (fun N M G k e w =>
    M (e 20) fun t22 =>
    N (xv (Instr.indexAt 37 (e 18) (e 20))) w fun t23 w =>
    N (xv (Instr.loadAt 57 t23)) w fun t24 w =>
    N (xv (Instr.alloc 57 true (.tuple #[]))) w fun t6 w =>
    M t22 fun t5 =>
    N (xu (Instr.storeAt 57 t6 t24)) w fun _ w =>
    k (Env.p (Env.p e 6 t6) 5 t5) w) (by kernel_rfl) (by intros; kernel_rfl)
noncomputable def c58_17_s:=@s_block Try.prog 45 V58 c58_17 c58_18 1 (by kernel_rfl)
noncomputable def c58_15_s:=@s_seq Try.prog 45 V58 c58_15 c58_16 c58_17 (by kernel_rfl)
noncomputable def c58_26_s:=@s_cond Try.prog 45 V58 c58_26 (.exit 0) 21 .skip (by kernel_rfl) (by kernel_rfl)
noncomputable def c58_14_s:=@s_seq Try.prog 45 V58 c58_14 c58_15 c58_26 (by kernel_rfl)
noncomputable def c58_13_s:=@s_reg Try.prog 45 V58 c58_13 c58_14 6 o58_6 (fun N M G k e w =>
    N (xv (xbin BinOp.lss 3 (Operand.tmp 20) (Operand.tmp 19) (e 20) (e 19))) w fun t21 w =>
    k (Env.p e 21 t21) w) (by kernel_rfl) (by intros; kernel_rfl)
noncomputable def c58_12_s:=@s_loop Try.prog 45 V58 c58_12 c58_13 (by kernel_rfl)
noncomputable def c58_11_s:=@s_block Try.prog 45 V58 c58_11 c58_12 0 (by kernel_rfl)
noncomputable def c58_10_s:=@s_reg Try.prog 45 V58 c58_10 c58_11 5 o58_5 (fun N M G k e w =>
    M (e 0) fun t18 =>
    N (builtin Builtin.len #[37] 3 ([false]).toArray ([t18]).toArray) w fun t19 w =>
    M (Value.int IntKind.i64 0) fun t20 =>
    k (Env.p (Env.p (Env.p e 18 t18) 19 t19) 20 t20) w) (by kernel_rfl) (by intros; kernel_rfl)
noncomputable def c58_4_s:=@s_seq Try.prog 45 V58 c58_4 c58_5 c58_10 (by kernel_rfl)
noncomputable def c58_3_s:=@s_reg Try.prog 45 V58 c58_3 c58_4 4 o58_4 (fun N M G k e w =>
    M (Value.bool false) fun t4 =>
    k (Env.p e 4 t4) w) (by kernel_rfl) (by intros; kernel_rfl)
noncomputable def c58_2_s:=@s_reg Try.prog 45 V58 c58_2 c58_3 3 o58_3 (fun N M G k e w =>
    N (xv (Instr.makeMap 118 none)) w fun t17 w =>
    M t17 fun t3 =>
    k (Env.p e 3 t3) w) (by kernel_rfl) (by intros; kernel_rfl)
noncomputable def c58_29_s:=@s_reg Try.prog 45 V58 c58_29 .ret 2 o58_2 (fun N M G k e w =>
    M (Value.int IntKind.i64 1) fun t2 =>
    k (Env.p e 2 t2) w) (by kernel_rfl) (by intros; kernel_rfl)
noncomputable def c58_28_s:=@s_cond Try.prog 45 V58 c58_28 .skip 16 c58_29 (by kernel_rfl) (by kernel_rfl)
noncomputable def c58_27_s:=@s_reg Try.prog 45 V58 c58_27 c58_28 1 o58_1 (fun N M G k e w =>
    M (e 0) fun t9 =>
    N (builtin Builtin.len #[37] 3 ([false]).toArray ([t9]).toArray) w fun t10 w =>
    N (xv (xbin BinOp.eql 3 (Operand.tmp 10) (Operand.const (Value.int IntKind.i64 0)) t10 (Value.int IntKind.i64 0))) w fun t11 w =>
    M t11 fun t12 =>
    G (isB t12 false) (fun K => M (e 0) fun v => K v w) (fun t13 w =>
    G (isB t12 false) (fun K => N (builtin Builtin.len #[37] 3 ([false]).toArray ([t13]).toArray) w K) (fun t14 w =>
    G (isB t12 false) (fun K => N (xv (xbin BinOp.gtr 3 (Operand.tmp 14) (Operand.const (Value.int IntKind.i64 8)) t14 (Value.int IntKind.i64 8))) w K) (fun t15 w =>
    N (xpick t12 (Value.bool true) t15) w fun t16 w =>
    k (Env.p e 16 t16) w) w) w) w) (by kernel_rfl) (by intros; kernel_rfl)
noncomputable def c58_1_s:=@s_seq Try.prog 45 V58 c58_1 c58_2 c58_27 (by kernel_rfl)
noncomputable def c58_s:=@s_reg Try.prog 45 V58 c58 c58_1 0 o58_0 (fun N M G k e w =>
    M (Value.int IntKind.i64 0) fun t2 =>
    k (Env.p e 2 t2) w) (by kernel_rfl) (by intros; kernel_rfl)
theorem call58 {a0 : Value} {w : World} {R : Value → World → Prop} (h : W3 Try.prog 45 V58 c58 (retQ Try.prog [.tmp 2] R) (argE [a0]) w) : CallsN Try.prog 58 [a0] w R :=
  callsN_of_W3 (c := c58) (rs := [.tmp 2]) V58 Try.ntmps58 (by rw [Try.results58]) mixed Try.func58 (by kernel_rfl) (by kernel_rfl) (by kernel_rfl) (by kernel_rfl) (by simp) h
noncomputable def w3t_58:=w3t Try.prog 45 V58
noncomputable def hk58 := And.intro @c58_6_s <| And.intro @c58_9_s <| And.intro @c58_8_s <| And.intro @c58_7_s <| And.intro @c58_5_s <| And.intro @c58_16_s <| And.intro @c58_22_s <| And.intro @c58_21_s <| And.intro @c58_20_s <| And.intro @c58_25_s <| And.intro @c58_24_s <| And.intro @c58_23_s <| And.intro @c58_19_s <| And.intro @c58_18_s <| And.intro @c58_17_s <| And.intro @c58_15_s <| And.intro @c58_26_s <| And.intro @c58_14_s <| And.intro @c58_13_s <| And.intro @c58_12_s <| And.intro @c58_11_s <| And.intro @c58_10_s <| And.intro @c58_4_s <| And.intro @c58_3_s <| And.intro @c58_2_s <| And.intro @c58_29_s <| And.intro @c58_28_s <| And.intro @c58_27_s <| And.intro @c58_1_s <| And.intro @c58_s <| @w3t_58
-- K58: ↓hk58
/-! ### vouch/store.New -/
def V18 : Nat → Bool := fun i => [0, 2].elem i
noncomputable def c18:Code:=(Try.f18.body.getD .skip)
noncomputable def o18_0:Array Oper:=rO (cL c18)
noncomputable def c18_1:Code:=(cR c18)
noncomputable def o18_1:Array Oper:=rO (cL c18_1)
noncomputable def c18_1_s:=@s_reg Try.prog 9 V18 c18_1 .ret 1 o18_1 (fun N M G k e w =>
    N (xv (Instr.makeMap 73 none)) w fun t3 w =>
    M (e 0) fun t4 =>
    N (builtin Builtin.max #[3, 3] 3 ([false, true]).toArray ([t4, (Value.int IntKind.i64 1)]).toArray) w fun t5 w =>
    N (builtin Builtin.min #[3, 3] 3 ([false, true]).toArray ([t5, (Value.int IntKind.i64 64)]).toArray) w fun t6 w =>
    N (xv (Instr.build 75 ([(0, t3), (1, t6)]).toArray)) w fun t7 w =>
    N (xv (Instr.box 75 t7)) w fun t8 w =>
    M t8 fun t2 =>
    k (Env.p e 2 t2) w) (by kernel_rfl) (by intros; kernel_rfl)
noncomputable def c18_s:=@s_reg Try.prog 9 V18 c18 c18_1 0 o18_0 (fun N M G k e w =>
    M (Value.pointer none) fun t2 =>
    k (Env.p e 2 t2) w) (by kernel_rfl) (by intros; kernel_rfl)
theorem call18 {a0 : Value} {w : World} {R : Value → World → Prop} (h : W3 Try.prog 9 V18 c18 (retQ Try.prog [.tmp 2] R) (argE [a0]) w) : CallsN Try.prog 18 [a0] w R :=
  callsN_of_W3 (c := c18) (rs := [.tmp 2]) V18 Try.ntmps18 (by rw [Try.results18]) mixed Try.func18 (by kernel_rfl) (by kernel_rfl) (by kernel_rfl) (by kernel_rfl) (by simp) h
noncomputable def w3t_18:=w3t Try.prog 9 V18
noncomputable def hk18 := And.intro @c18_1_s <| And.intro @c18_s <| @w3t_18
-- K18: ↓hk18
/-! ### (*vouch/store.Store) . Last -/
def V24 : Nat → Bool := fun i => [0, 2, 4].elem i
noncomputable def c24:Code:=(Try.f24.body.getD .skip)
noncomputable def o24_0:Array Oper:=rO (cL c24)
noncomputable def c24_1:Code:=(cR c24)
noncomputable def c24_2:Code:=(cR c24_1)
noncomputable def o24_3:Array Oper:=rO (cL c24_2)
noncomputable def c24_3:Code:=(cL c24_1)
noncomputable def o24_1:Array Oper:=rO (cL c24_3)
noncomputable def c24_4:Code:=(cR c24_3)
noncomputable def c24_5:Code:=(cL c24_4)
noncomputable def o24_2:Array Oper:=rO (cL c24_5)
noncomputable def c24_2_s:=@s_reg Try.prog 9 V24 c24_2 .ret 3 o24_3 (fun N M G k e w =>
    M (e 0) fun t5 =>
    N (xnil t5) w fun t6 w =>
    N (xv (Instr.fieldAt 75 t6 2)) w fun t7 w =>
    N (xv (Instr.loadAt 2 t7)) w fun t8 w =>
    M t8 fun t2 =>
    k (Env.p e 2 t2) w) (by kernel_rfl) (by intros; kernel_rfl)
noncomputable def c24_5_s:=@s_reg Try.prog 9 V24 c24_5 .ret 2 o24_2 (fun N M G k e w =>
    M (Value.int IntKind.i64 0) fun t2 =>
    k (Env.p e 2 t2) w) (by kernel_rfl) (by intros; kernel_rfl)
noncomputable def c24_4_s:=@s_cond Try.prog 9 V24 c24_4 .skip 4 c24_5 (by kernel_rfl) (by kernel_rfl)
noncomputable def c24_3_s:=@s_reg Try.prog 9 V24 c24_3 c24_4 1 o24_1 (fun N M G k e w =>
    M (e 0) fun t3 =>
    N (xv (xbin BinOp.eql 60 (Operand.tmp 3) (Operand.const (Value.pointer none)) t3 (Value.pointer none))) w fun t4 w =>
    k (Env.p e 4 t4) w) (by kernel_rfl) (by intros; kernel_rfl)
noncomputable def c24_1_s:=@s_seq Try.prog 9 V24 c24_1 c24_2 c24_3 (by kernel_rfl)
noncomputable def c24_s:=@s_reg Try.prog 9 V24 c24 c24_1 0 o24_0 (fun N M G k e w =>
    M (Value.int IntKind.i64 0) fun t2 =>
    k (Env.p e 2 t2) w) (by kernel_rfl) (by intros; kernel_rfl)
theorem call24 {a0 : Value} {w : World} {R : Value → World → Prop} (h : W3 Try.prog 9 V24 c24 (retQ Try.prog [.tmp 2] R) (argE [a0]) w) : CallsN Try.prog 24 [a0] w R :=
  callsN_of_W3 (c := c24) (rs := [.tmp 2]) V24 Try.ntmps24 (by rw [Try.results24]) mixed Try.func24 (by kernel_rfl) (by kernel_rfl) (by kernel_rfl) (by kernel_rfl) (by simp) h
noncomputable def w3t_24:=w3t Try.prog 9 V24
noncomputable def hk24 := And.intro @c24_2_s <| And.intro @c24_5_s <| And.intro @c24_4_s <| And.intro @c24_3_s <| And.intro @c24_1_s <| And.intro @c24_s <| @w3t_24
-- K24: ↓hk24
/-! ### (*vouch/store.Store) . Oldest -/
def V26 : Nat → Bool := fun i => [0, 1, 4, 16].elem i
noncomputable def c26:Code:=(Try.f26.body.getD .skip)
noncomputable def o26_0:Array Oper:=rO (cL c26)
noncomputable def c26_1:Code:=(cR c26)
noncomputable def c26_2:Code:=(cR c26_1)
noncomputable def o26_3:Array Oper:=rO (cL c26_2)
noncomputable def c26_3:Code:=(cL c26_1)
noncomputable def o26_1:Array Oper:=rO (cL c26_3)
noncomputable def c26_4:Code:=(cR c26_3)
noncomputable def c26_5:Code:=(cL c26_4)
noncomputable def o26_2:Array Oper:=rO (cL c26_5)
noncomputable def c26_2_s:=@s_reg Try.prog 27 V26 c26_2 .ret 3 o26_3 (fun N M G k e w =>
    M (e 0) fun t17 =>
    N (xnil t17) w fun t18 w =>
    N (xv (Instr.fieldAt 75 t18 0)) w fun t19 w =>
    N (xv (Instr.loadAt 73 t19)) w fun t20 w =>
    M (e 1) fun t21 =>
    N (xv (Instr.lookup 73 t20 t21 false)) w fun t22 w =>
    N (xv (Instr.field 93 t22 0)) w fun t23 w =>
    N (xv (Instr.indexAt 91 t23 (Value.int IntKind.i64 0))) w fun t24 w =>
    N (xv (Instr.fieldAt 95 t24 0)) w fun t25 w =>
    N (xv (Instr.loadAt 2 t25)) w fun t26 w =>
    M t26 fun t4 =>
    k (Env.p e 4 t4) w) (by kernel_rfl) (by intros; kernel_rfl)
noncomputable def c26_5_s:=@s_reg Try.prog 27 V26 c26_5 .ret 2 o26_2 (fun N M G k e w =>
    M (Value.int IntKind.i64 0) fun t4 =>
    k (Env.p e 4 t4) w) (by kernel_rfl) (by intros; kernel_rfl)
noncomputable def c26_4_s:=@s_cond Try.prog 27 V26 c26_4 .skip 16 c26_5 (by kernel_rfl) (by kernel_rfl)
noncomputable def c26_3_s:=@s_reg Try.prog 27 V26 c26_3 c26_4 1 o26_1 (fun N M G k e w =>
    M (e 0) fun t5 =>
    N (xv (xbin BinOp.eql 60 (Operand.tmp 5) (Operand.const (Value.pointer none)) t5 (Value.pointer none))) w fun t6 w =>
    M t6 fun t7 =>
    G (isB t7 false) (fun K => M (e 0) fun v => K v w) (fun t8 w =>
    G (isB t7 false) (fun K => N (xnil t8) w K) (fun t9 w =>
    G (isB t7 false) (fun K => N (xv (Instr.fieldAt 75 t9 0)) w K) (fun t10 w =>
    G (isB t7 false) (fun K => N (xv (Instr.loadAt 73 t10)) w K) (fun t11 w =>
    G (isB t7 false) (fun K => M (e 1) fun v => K v w) (fun t12 w =>
    G (isB t7 false) (fun K => N (xv (Instr.lookup 73 t11 t12 false)) w K) (fun t13 w =>
    G (isB t7 false) (fun K => N (xv (Instr.field 93 t13 1)) w K) (fun t14 w =>
    G (isB t7 false) (fun K => N (xv (Op.unary UnOp.not t14)) w K) (fun t15 w =>
    N (xpick t7 (Value.bool true) t15) w fun t16 w =>
    k (Env.p e 16 t16) w) w) w) w) w) w) w) w) w) (by kernel_rfl) (by intros; kernel_rfl)
noncomputable def c26_1_s:=@s_seq Try.prog 27 V26 c26_1 c26_2 c26_3 (by kernel_rfl)
noncomputable def c26_s:=@s_reg Try.prog 27 V26 c26 c26_1 0 o26_0 (fun N M G k e w =>
    M (Value.int IntKind.i64 0) fun t4 =>
    k (Env.p e 4 t4) w) (by kernel_rfl) (by intros; kernel_rfl)
theorem call26 {a0 a1 : Value} {w : World} {R : Value → World → Prop} (h : W3 Try.prog 27 V26 c26 (retQ Try.prog [.tmp 4] R) (argE [a0, a1]) w) : CallsN Try.prog 26 [a0, a1] w R :=
  callsN_of_W3 (c := c26) (rs := [.tmp 4]) V26 Try.ntmps26 (by rw [Try.results26]) mixed Try.func26 (by kernel_rfl) (by kernel_rfl) (by kernel_rfl) (by kernel_rfl) (by simp) h
noncomputable def w3t_26:=w3t Try.prog 27 V26
noncomputable def hk26 := And.intro @c26_2_s <| And.intro @c26_5_s <| And.intro @c26_4_s <| And.intro @c26_3_s <| And.intro @c26_1_s <| And.intro @c26_s <| @w3t_26
-- K26: ↓hk26
/-! ### (*vouch/store.Store) . Read -/
def V27 : Nat → Bool := fun i => [0, 1, 2, 5, 6, 7, 8, 9, 10, 11, 15, 24, 32, 55, 63].elem i
noncomputable def c27:Code:=(Try.f27.body.getD .skip)
noncomputable def o27_0:Array Oper:=rO (cL c27)
noncomputable def c27_1:Code:=(cR c27)
noncomputable def c27_2:Code:=(cR c27_1)
noncomputable def o27_9:Array Oper:=rO (cL c27_2)
noncomputable def c27_3:Code:=(cR c27_2)
noncomputable def o27_10:Array Oper:=rO (cL c27_3)
noncomputable def c27_4:Code:=(cR c27_3)
noncomputable def o27_11:Array Oper:=rO (cL c27_4)
noncomputable def c27_5:Code:=(cR c27_4)
noncomputable def c27_6:Code:=(cR c27_5)
noncomputable def c27_7:Code:=(cR c27_6)
noncomputable def o27_16:Array Oper:=rO (cL c27_7)
noncomputable def c27_8:Code:=(cL c27_6)
noncomputable def o27_14:Array Oper:=rO (cL c27_8)
noncomputable def c27_9:Code:=(cR c27_8)
noncomputable def c27_10:Code:=(cL c27_9)
noncomputable def o27_15:Array Oper:=rO c27_10
noncomputable def b27_15:List Row:=[(0, 0, 256, 65, true), (0, 0, 512, 66, true), (2, 2, 36893488147419103232, 67, true), (5, 7, 92233720368547758080, 68, true), (8, 15, 147573952589676412928, 69, true), (16, 31, 295147905179352825856, 70, true), (0, 0, 256, 71, true), (0, 0, 512, 72, true), (128, 128, 2361183241434822606848, 73, true), (320, 448, 5902958103587056517120, 74, true), (512, 960, 9444732965739290427392, 75, true), (1024, 1984, 18889465931478580854784, 76, true), (63, 63, 1024, 77, true), (4159, 4159, 76148159536273029070848, 0, false), (16383, 16383, 1024, 78, true), (32767, 32767, 188894659314785808547840, 0, false)]
noncomputable def c27_11:Code:=(cL c27_5)
noncomputable def o27_12:Array Oper:=rO (cL c27_11)
noncomputable def c27_12:Code:=(cR c27_11)
noncomputable def c27_13:Code:=(cL c27_12)
noncomputable def o27_13:Array Oper:=rO c27_13
noncomputable def c27_14:Code:=(cL c27_1)
noncomputable def c27_15:Code:=(cL c27_14)
noncomputable def o27_1:Array Oper:=rO (cL c27_15)
noncomputable def c27_16:Code:=(cR c27_15)
noncomputable def c27_17:Code:=(cL c27_16)
noncomputable def o27_2:Array Oper:=rO (cL c27_17)
noncomputable def c27_18:Code:=(cR c27_16)
noncomputable def o27_3:Array Oper:=rO (cL c27_18)
noncomputable def c27_19:Code:=(cR c27_18)
noncomputable def c27_20:Code:=(cL c27_19)
noncomputable def o27_4:Array Oper:=rO (cL c27_20)
noncomputable def c27_21:Code:=(cR c27_19)
noncomputable def o27_5:Array Oper:=rO (cL c27_21)
noncomputable def b27_5:List Row:=[(0, 0, 32, 26, true), (0, 0, 1, 27, true), (2, 2, 67108864, 28, true), (4, 6, 134217728, 29, true), (8, 14, 268435456, 30, true), (17, 31, 570425344, 31, true), (32, 63, 1073741824, 25, true)]
noncomputable def c27_22:Code:=(cR c27_21)
noncomputable def c27_23:Code:=(cL c27_22)
noncomputable def o27_6:Array Oper:=rO (cL c27_23)
noncomputable def c27_24:Code:=(cR c27_22)
noncomputable def o27_7:Array Oper:=rO (cL c27_24)
noncomputable def b27_7:List Row:=[(0, 0, 32, 34, true), (0, 0, 1, 35, true), (0, 0, 2, 36, true), (6, 6, 51539607552, 37, false), (9, 15, 77309411328, 38, true), (24, 31, 137438953472, 33, true)]
noncomputable def c27_25:Code:=(cR c27_24)
noncomputable def c27_26:Code:=(cL c27_25)
noncomputable def o27_8:Array Oper:=rO (cL c27_26)
noncomputable def c27_7_s:=@s_reg Try.prog 79 V27 c27_7 .ret 16 o27_16 (fun N M G k e w =>
    N (xv (Instr.loadAt 50 (e 10))) w fun t78 w =>
    N (xu (Instr.storeAt 50 (e 6) t78)) w fun _ w =>
    M (Value.int IntKind.i64 0) fun t7 =>
    k (Env.p e 7 t7) w) (by kernel_rfl) (by intros; kernel_rfl)
noncomputable def c27_10_s:=@s_drwE Try.prog 79 V27 c27_10 15 o27_15 b27_15 16 (fun N T M G H Y k e w =>
    T (FrX (some []) w) (xv (Instr.loadAt 91 (e 8))) fun t64 =>
    M (e 9) fun t65 =>
    T (FrX none w) (xv (xbin BinOp.sub 3 (Operand.tmp 65) (Operand.const (Value.int IntKind.i64 1)) t65 (Value.int IntKind.i64 1))) fun t66 =>
    T (FrX none w) (xv (Instr.indexAt 91 t64 t66)) fun t67 =>
    T (FrX none w) (xv (Instr.fieldAt 95 t67 0)) fun t68 =>
    T (FrX (some []) w) (xv (Instr.loadAt 2 t68)) fun t69 =>
    T (FrX (some []) w) (xv (Instr.loadAt 91 (e 8))) fun t70 =>
    M (e 9) fun t71 =>
    T (FrX none w) (xv (xbin BinOp.sub 3 (Operand.tmp 71) (Operand.const (Value.int IntKind.i64 1)) t71 (Value.int IntKind.i64 1))) fun t72 =>
    T (FrX none w) (xv (Instr.indexAt 91 t70 t72)) fun t73 =>
    T (FrX none w) (xv (Instr.fieldAt 95 t73 1)) fun t74 =>
    T (FrX (some []) w) (xv (Instr.loadAt 35 t74)) fun t75 =>
    T (FrX none w) (xv (Instr.fieldAt 50 (e 10) 2)) fun t76 =>
    N (xu (Instr.storeAt 2 t76 t69)) w fun _ w13 =>
    Y true (xv (Instr.loadAt 35 t74)) t75 w w13 ∧ (Y true (xv (Instr.loadAt 91 (e 8))) t70 w w13 ∧ (T (FrX none w13) (xv (Instr.fieldAt 50 (e 10) 1)) fun t77 =>
    N (xu (Instr.storeAt 35 t77 t75)) w13 fun _ w15 =>
    k e w15))) (by kernel_rfl) (by kernel_rfl) (by kernel_rfl) (by intros; kernel_rfl)
noncomputable def c27_9_s:=@s_cond Try.prog 79 V27 c27_9 .skip 63 c27_10 (by kernel_rfl) (by kernel_rfl)
noncomputable def c27_8_s:=@s_reg Try.prog 79 V27 c27_8 c27_9 14 o27_14 (fun N M G k e w =>
    M (e 9) fun t62 =>
    N (xv (xbin BinOp.gtr 3 (Operand.tmp 62) (Operand.const (Value.int IntKind.i64 0)) t62 (Value.int IntKind.i64 0))) w fun t63 w =>
    k (Env.p e 63 t63) w) (by kernel_rfl) (by intros; kernel_rfl)
noncomputable def c27_6_s:=@s_seq Try.prog 79 V27 c27_6 c27_7 c27_8 (by kernel_rfl)
noncomputable def c27_13_s:=@s_rend Try.prog 79 V27 c27_13 13 o27_13 (fun N M G k e w =>
    N (xv (Instr.loadAt 91 (e 8))) w fun t56 w =>
    M (e 9) fun t57 =>
    N (xv (Instr.indexAt 91 t56 t57)) w fun t58 w =>
    N (xv (Instr.fieldAt 95 t58 0)) w fun t59 w =>
    N (xv (Instr.loadAt 2 t59)) w fun t60 w =>
    N (xv (Instr.fieldAt 50 (e 10) 3)) w fun t61 w =>
    N (xu (Instr.storeAt 2 t61 t60)) w fun _ w =>
    k e w) (by kernel_rfl) (by intros; kernel_rfl)
noncomputable def c27_12_s:=@s_cond Try.prog 79 V27 c27_12 .skip 55 c27_13 (by kernel_rfl) (by kernel_rfl)
noncomputable def c27_11_s:=@s_reg Try.prog 79 V27 c27_11 c27_12 12 o27_12 (fun N M G k e w =>
    M (e 9) fun t52 =>
    N (xv (Instr.loadAt 91 (e 8))) w fun t53 w =>
    N (builtin Builtin.len #[91] 3 ([false]).toArray ([t53]).toArray) w fun t54 w =>
    N (xv (xbin BinOp.lss 3 (Operand.tmp 52) (Operand.tmp 54) t52 t54)) w fun t55 w =>
    k (Env.p e 55 t55) w) (by kernel_rfl) (by intros; kernel_rfl)
noncomputable def c27_5_s:=@s_seq Try.prog 79 V27 c27_5 c27_6 c27_11 (by kernel_rfl)
noncomputable def c27_4_s:=@s_reg Try.prog 79 V27 c27_4 c27_5 11 o27_11 (fun N M G k e w =>
    M (e 1) fun t50 =>
    N (xv (Instr.build 50 ([(0, t50), (3, (Value.int IntKind.i64 4611686018427387904))]).toArray)) w fun t51 w =>
    N (xv (Instr.alloc 50 true (.tuple #[]))) w fun t10 w =>
    N (xu (Instr.storeAt 50 t10 t51)) w fun _ w =>
    k (Env.p e 10 t10) w) (by kernel_rfl) (by intros; kernel_rfl)
noncomputable def c27_3_s:=@s_reg Try.prog 79 V27 c27_3 c27_4 10 o27_10 (fun N M G k e w =>
    N (xv (Instr.loadAt 91 (e 8))) w fun t46 w =>
    N (builtin Builtin.len #[91] 3 ([false]).toArray ([t46]).toArray) w fun t47 w =>
    N (xv (Instr.makeFunc (Fn.func 45) ([]).toArray ([(e 8), (e 5)]).toArray)) w fun t48 w =>
    N (xcall (Value.func (Fn.func 44) #[] #[]) [t47, t48]) w fun t49 w =>
    M t49 fun t9 =>
    k (Env.p e 9 t9) w) (by kernel_rfl) (by intros; kernel_rfl)
noncomputable def c27_2_s:=@s_reg Try.prog 79 V27 c27_2 c27_3 9 o27_9 (fun N M G k e w =>
    M (e 0) fun t39 =>
    N (xnil t39) w fun t40 w =>
    N (xv (Instr.fieldAt 75 t40 0)) w fun t41 w =>
    N (xv (Instr.loadAt 73 t41)) w fun t42 w =>
    M (e 1) fun t43 =>
    N (xv (Instr.lookup 73 t42 t43 false)) w fun t44 w =>
    N (xv (Instr.field 93 t44 0)) w fun t45 w =>
    N (xv (Instr.alloc 91 true (.tuple #[]))) w fun t8 w =>
    N (xu (Instr.storeAt 91 t8 t45)) w fun _ w =>
    k (Env.p e 8 t8) w) (by kernel_rfl) (by intros; kernel_rfl)
noncomputable def c27_17_s:=@s_reg Try.prog 79 V27 c27_17 .ret 2 o27_2 (fun N M G k e w =>
    N (xv (Instr.build 50 ([]).toArray)) w fun t14 w =>
    N (xu (Instr.storeAt 50 (e 6) t14)) w fun _ w =>
    M (Value.int IntKind.i64 3) fun t7 =>
    k (Env.p e 7 t7) w) (by kernel_rfl) (by intros; kernel_rfl)
noncomputable def c27_20_s:=@s_reg Try.prog 79 V27 c27_20 .ret 4 o27_4 (fun N M G k e w =>
    N (xv (Instr.build 50 ([]).toArray)) w fun t23 w =>
    N (xu (Instr.storeAt 50 (e 6) t23)) w fun _ w =>
    M (Value.int IntKind.i64 1) fun t7 =>
    k (Env.p e 7 t7) w) (by kernel_rfl) (by intros; kernel_rfl)
noncomputable def c27_23_s:=@s_reg Try.prog 79 V27 c27_23 .ret 6 o27_6 (fun N M G k e w =>
    N (xv (Instr.build 50 ([]).toArray)) w fun t31 w =>
    N (xu (Instr.storeAt 50 (e 6) t31)) w fun _ w =>
    M (Value.int IntKind.i64 21) fun t7 =>
    k (Env.p e 7 t7) w) (by kernel_rfl) (by intros; kernel_rfl)
noncomputable def c27_26_s:=@s_reg Try.prog 79 V27 c27_26 .ret 8 o27_8 (fun N M G k e w =>
    N (xv (Instr.build 50 ([]).toArray)) w fun t38 w =>
    N (xu (Instr.storeAt 50 (e 6) t38)) w fun _ w =>
    M (Value.int IntKind.i64 20) fun t7 =>
    k (Env.p e 7 t7) w) (by kernel_rfl) (by intros; kernel_rfl)
noncomputable def c27_25_s:=@s_cond Try.prog 79 V27 c27_25 .skip 32 c27_26 (by kernel_rfl) (by kernel_rfl)
noncomputable def c27_24_s:=@s_drw Try.prog 79 V27 c27_24 c27_25 7 o27_7 b27_7 6 (fun N T M G H Y k e w =>
    T (FrX (some []) w) (xv (Instr.loadAt 2 (e 5))) fun t33 =>
    M (e 0) fun t34 =>
    M (e 1) fun t35 =>
    N (xcall (Value.func (Fn.func 26) #[] #[]) [t34, t35]) w fun t36 w3 =>
    Y true (xv (Instr.loadAt 2 (e 5))) t33 w w3 ∧ (T (FrX none w3) (xv (xbin BinOp.lss 2 (Operand.tmp 33) (Operand.tmp 36) t33 t36)) fun t37 =>
    M t37 fun t32 =>
    k (Env.p e 32 t32) w3)) (by kernel_rfl) (by kernel_rfl) (by kernel_rfl) (by intros; kernel_rfl)
noncomputable def c27_22_s:=@s_cond Try.prog 79 V27 c27_22 c27_24 24 c27_23 (by kernel_rfl) (by kernel_rfl)
noncomputable def c27_21_s:=@s_drw Try.prog 79 V27 c27_21 c27_22 5 o27_5 b27_5 7 (fun N T M G H Y k e w =>
    T (FrX (some []) w) (xv (Instr.loadAt 2 (e 5))) fun t25 =>
    M (e 0) fun t26 =>
    T (FrX none w) (xnil t26) fun t27 =>
    T (FrX none w) (xv (Instr.fieldAt 75 t27 2)) fun t28 =>
    T (FrX (some []) w) (xv (Instr.loadAt 2 t28)) fun t29 =>
    T (FrX none w) (xv (xbin BinOp.gtr 2 (Operand.tmp 25) (Operand.tmp 29) t25 t29)) fun t30 =>
    M t30 fun t24 =>
    k (Env.p e 24 t24) w) (by kernel_rfl) (by kernel_rfl) (by kernel_rfl) (by intros; kernel_rfl)
noncomputable def c27_19_s:=@s_cond Try.prog 79 V27 c27_19 c27_21 15 c27_20 (by kernel_rfl) (by kernel_rfl)
noncomputable def c27_18_s:=@s_reg Try.prog 79 V27 c27_18 c27_19 3 o27_3 (fun N M G k e w =>
    M (e 1) fun t16 =>
    N (xcall (Value.func (Fn.func 43) #[] #[]) [t16]) w fun t17 w =>
    N (xv (Op.unary UnOp.not t17)) w fun t18 w =>
    M t18 fun t19 =>
    G (isB t19 false) (fun K => N (xv (Instr.loadAt 2 (e 5))) w K) (fun t20 w =>
    G (isB t19 false) (fun K => N (xv (xbin BinOp.lss 2 (Operand.tmp 20) (Operand.const (Value.int IntKind.i64 0)) t20 (Value.int IntKind.i64 0))) w K) (fun t21 w =>
    N (xpick t19 (Value.bool true) t21) w fun t22 w =>
    M t22 fun t15 =>
    k (Env.p e 15 t15) w) w) w) (by kernel_rfl) (by intros; kernel_rfl)
noncomputable def c27_16_s:=@s_cond Try.prog 79 V27 c27_16 c27_18 11 c27_17 (by kernel_rfl) (by kernel_rfl)
noncomputable def c27_15_s:=@s_reg Try.prog 79 V27 c27_15 c27_16 1 o27_1 (fun N M G k e w =>
    M (e 0) fun t12 =>
    N (xv (xbin BinOp.eql 60 (Operand.tmp 12) (Operand.const (Value.pointer none)) t12 (Value.pointer none))) w fun t13 w =>
    M t13 fun t11 =>
    k (Env.p e 11 t11) w) (by kernel_rfl) (by intros; kernel_rfl)
noncomputable def c27_14_s:=@s_block Try.prog 79 V27 c27_14 c27_15 0 (by kernel_rfl)
noncomputable def c27_1_s:=@s_seq Try.prog 79 V27 c27_1 c27_2 c27_14 (by kernel_rfl)
noncomputable def c27_s:=@s_reg Try.prog 79 V27 c27 c27_1 0 o27_0 (fun N M G k e w =>
    N (xv (Instr.box 2 (e 2))) w fun t5 w =>
    N (xv (Instr.alloc 50 true (.tuple #[]))) w fun t6 w =>
    M (Value.int IntKind.i64 0) fun t7 =>
    k (Env.p (Env.p (Env.p e 5 t5) 6 t6) 7 t7) w) (by kernel_rfl) (by intros; kernel_rfl)
theorem call27 {a0 a1 a2 : Value} {w : World} {R : Value → World → Prop} (h : W3 Try.prog 79 V27 c27 (retQ Try.prog [.cell 6 50, .tmp 7] R) (argE [a0, a1, a2]) w) : CallsN Try.prog 27 [a0, a1, a2] w R :=
  callsN_of_W3 (c := c27) (rs := [.cell 6 50, .tmp 7]) V27 Try.ntmps27 (by rw [Try.results27]) mixed Try.func27 (by kernel_rfl) (by kernel_rfl) (by kernel_rfl) (by kernel_rfl) (by simp) h
noncomputable def w3t_27:=w3t Try.prog 79 V27
noncomputable def hk27 := And.intro @c27_7_s <| And.intro @c27_10_s <| And.intro @c27_9_s <| And.intro @c27_8_s <| And.intro @c27_6_s <| And.intro @c27_13_s <| And.intro @c27_12_s <| And.intro @c27_11_s <| And.intro @c27_5_s <| And.intro @c27_4_s <| And.intro @c27_3_s <| And.intro @c27_2_s <| And.intro @c27_17_s <| And.intro @c27_20_s <| And.intro @c27_23_s <| And.intro @c27_26_s <| And.intro @c27_25_s <| And.intro @c27_24_s <| And.intro @c27_22_s <| And.intro @c27_21_s <| And.intro @c27_19_s <| And.intro @c27_18_s <| And.intro @c27_16_s <| And.intro @c27_15_s <| And.intro @c27_14_s <| And.intro @c27_1_s <| And.intro @c27_s <| @w3t_27
-- K27: ↓hk27
/-! ### (*vouch/store.Store) . Read$1 -/
def V45 : Nat → Bool := fun i => [0, 1, 2, 4].elem i
noncomputable def c45:Code:=(Try.f45.body.getD .skip)
noncomputable def o45_0:Array Oper:=rO (cL c45)
noncomputable def c45_1:Code:=(cR c45)
noncomputable def o45_1:Array Oper:=rO (cL c45_1)
noncomputable def b45_1:List Row:=[(0, 0, 2, 6, true), (0, 0, 1, 7, true), (3, 3, 96, 8, true), (4, 7, 128, 9, true), (8, 15, 256, 10, true), (0, 0, 4, 11, true), (48, 63, 1536, 12, true), (127, 127, 2048, 5, true)]
noncomputable def c45_1_s:=@s_drw Try.prog 12 V45 c45_1 .ret 1 o45_1 b45_1 8 (fun N T M G H Y k e w =>
    T (FrX (some []) w) (xv (Instr.loadAt 91 (e 1))) fun t5 =>
    M (e 0) fun t6 =>
    T (FrX none w) (xv (Instr.indexAt 91 t5 t6)) fun t7 =>
    T (FrX none w) (xv (Instr.fieldAt 95 t7 0)) fun t8 =>
    T (FrX (some []) w) (xv (Instr.loadAt 2 t8)) fun t9 =>
    T (FrX (some []) w) (xv (Instr.loadAt 2 (e 2))) fun t10 =>
    T (FrX none w) (xv (xbin BinOp.gtr 2 (Operand.tmp 9) (Operand.tmp 10) t9 t10)) fun t11 =>
    M t11 fun t4 =>
    k (Env.p e 4 t4) w) (by kernel_rfl) (by kernel_rfl) (by kernel_rfl) (by intros; kernel_rfl)
noncomputable def c45_s:=@s_reg Try.prog 12 V45 c45 c45_1 0 o45_0 (fun N M G k e w =>
    M (Value.bool false) fun t4 =>
    k (Env.p e 4 t4) w) (by kernel_rfl) (by intros; kernel_rfl)
theorem call45 {a0 a1 a2 : Value} {w : World} {R : Value → World → Prop} (h : W3 Try.prog 12 V45 c45 (retQ Try.prog [.tmp 4] R) (argE [a0, a1, a2]) w) : CallsN Try.prog 45 [a0, a1, a2] w R :=
  callsN_of_W3 (c := c45) (rs := [.tmp 4]) V45 Try.ntmps45 (by rw [Try.results45]) mixed Try.func45 (by kernel_rfl) (by kernel_rfl) (by kernel_rfl) (by kernel_rfl) (by simp) h
noncomputable def w3t_45:=w3t Try.prog 12 V45
noncomputable def hk45 := And.intro @c45_1_s <| And.intro @c45_s <| @w3t_45
-- K45: ↓hk45
/-! ### sort.Search -/
def V44 : Nat → Bool := fun i => [0, 1, 4, 5, 6, 7, 11, 21].elem i
noncomputable def c44:Code:=(Try.f44.body.getD .skip)
noncomputable def o44_0:Array Oper:=rO (cL c44)
noncomputable def c44_1:Code:=(cR c44)
noncomputable def o44_1:Array Oper:=rO (cL c44_1)
noncomputable def c44_2:Code:=(cR c44_1)
noncomputable def c44_3:Code:=(cR c44_2)
noncomputable def o44_7:Array Oper:=rO (cL c44_3)
noncomputable def c44_4:Code:=(cL c44_2)
noncomputable def c44_5:Code:=(cL c44_4)
noncomputable def c44_6:Code:=(cL c44_5)
noncomputable def c44_7:Code:=(cR c44_6)
noncomputable def c44_8:Code:=(cL c44_7)
noncomputable def o44_3:Array Oper:=rO (cL c44_8)
noncomputable def c44_9:Code:=(cR c44_8)
noncomputable def o44_4:Array Oper:=rO (cL c44_9)
noncomputable def c44_10:Code:=(cR c44_9)
noncomputable def c44_11:Code:=(cL c44_10)
noncomputable def o44_5:Array Oper:=rO c44_11
noncomputable def c44_12:Code:=(cR c44_10)
noncomputable def o44_6:Array Oper:=rO c44_12
noncomputable def c44_13:Code:=(cL c44_6)
noncomputable def o44_2:Array Oper:=rO (cL c44_13)
noncomputable def c44_14:Code:=(cR c44_13)
noncomputable def c44_3_s:=@s_reg Try.prog 26 V44 c44_3 .ret 7 o44_7 (fun N M G k e w =>
    M (e 5) fun t25 =>
    M t25 fun t4 =>
    k (Env.p e 4 t4) w) (by kernel_rfl) (by intros; kernel_rfl)
noncomputable def c44_11_s:=@s_rend Try.prog 26 V44 c44_11 5 o44_5 (fun N M G k e w =>
    M (e 7) fun t22 =>
    N (xv (xbin BinOp.add 3 (Operand.tmp 22) (Operand.const (Value.int IntKind.i64 1)) t22 (Value.int IntKind.i64 1))) w fun t23 w =>
    M t23 fun t5 =>
    k (Env.p e 5 t5) w) (by kernel_rfl) (by intros; kernel_rfl)
noncomputable def c44_12_s:=@s_rend Try.prog 26 V44 c44_12 6 o44_6 (fun N M G k e w =>
    M (e 7) fun t24 =>
    M t24 fun t6 =>
    k (Env.p e 6 t6) w) (by kernel_rfl) (by intros; kernel_rfl)
noncomputable def c44_10_s:=@s_cond Try.prog 26 V44 c44_10 c44_12 21 c44_11 (by kernel_rfl) (by kernel_rfl)
noncomputable def c44_9_s:=@s_reg Try.prog 26 V44 c44_9 c44_10 4 o44_4 (fun N M G k e w =>
    M (e 1) fun t18 =>
    M (e 7) fun t19 =>
    N (xcall t18 [t19]) w fun t20 w =>
    N (xv (Op.unary UnOp.not t20)) w fun t21 w =>
    k (Env.p e 21 t21) w) (by kernel_rfl) (by intros; kernel_rfl)
noncomputable def c44_8_s:=@s_reg Try.prog 26 V44 c44_8 c44_9 3 o44_3 (fun N M G k e w =>
    M (e 5) fun t12 =>
    M (e 6) fun t13 =>
    N (xv (xbin BinOp.add 3 (Operand.tmp 12) (Operand.tmp 13) t12 t13)) w fun t14 w =>
    N (xv (convert 3 114 t14)) w fun t15 w =>
    N (xv (xbin BinOp.shr 114 (Operand.tmp 15) (Operand.const (Value.int IntKind.u64 1)) t15 (Value.int IntKind.u64 1))) w fun t16 w =>
    N (xv (convert 114 3 t16)) w fun t17 w =>
    M t17 fun t7 =>
    k (Env.p e 7 t7) w) (by kernel_rfl) (by intros; kernel_rfl)
noncomputable def c44_7_s:=@s_block Try.prog 26 V44 c44_7 c44_8 1 (by kernel_rfl)
noncomputable def c44_14_s:=@s_cond Try.prog 26 V44 c44_14 (.exit 0) 11 .skip (by kernel_rfl) (by kernel_rfl)
noncomputable def c44_13_s:=@s_reg Try.prog 26 V44 c44_13 c44_14 2 o44_2 (fun N M G k e w =>
    M (e 5) fun t9 =>
    M (e 6) fun t10 =>
    N (xv (xbin BinOp.lss 3 (Operand.tmp 9) (Operand.tmp 10) t9 t10)) w fun t11 w =>
    k (Env.p e 11 t11) w) (by kernel_rfl) (by intros; kernel_rfl)
noncomputable def c44_6_s:=@s_seq Try.prog 26 V44 c44_6 c44_7 c44_13 (by kernel_rfl)
noncomputable def c44_5_s:=@s_loop Try.prog 26 V44 c44_5 c44_6 (by kernel_rfl)
noncomputable def c44_4_s:=@s_block Try.prog 26 V44 c44_4 c44_5 0 (by kernel_rfl)
noncomputable def c44_2_s:=@s_seq Try.prog 26 V44 c44_2 c44_3 c44_4 (by kernel_rfl)
noncomputable def c44_1_s:=@s_reg Try.prog 26 V44 c44_1 c44_2 1 o44_1 (fun N M G k e w =>
    M (e 0) fun t8 =>
    M (Value.int IntKind.i64 0) fun t5 =>
    M t8 fun t6 =>
    k (Env.p (Env.p e 5 t5) 6 t6) w) (by kernel_rfl) (by intros; kernel_rfl)
noncomputable def c44_s:=@s_reg Try.prog 26 V44 c44 c44_1 0 o44_0 (fun N M G k e w =>
    M (Value.int IntKind.i64 0) fun t4 =>
    k (Env.p e 4 t4) w) (by kernel_rfl) (by intros; kernel_rfl)
theorem call44 {a0 a1 : Value} {w : World} {R : Value → World → Prop} (h : W3 Try.prog 26 V44 c44 (retQ Try.prog [.tmp 4] R) (argE [a0, a1]) w) : CallsN Try.prog 44 [a0, a1] w R :=
  callsN_of_W3 (c := c44) (rs := [.tmp 4]) V44 Try.ntmps44 (by rw [Try.results44]) mixed Try.func44 (by kernel_rfl) (by kernel_rfl) (by kernel_rfl) (by kernel_rfl) (by simp) h
noncomputable def w3t_44:=w3t Try.prog 26 V44
noncomputable def hk44 := And.intro @c44_3_s <| And.intro @c44_11_s <| And.intro @c44_12_s <| And.intro @c44_10_s <| And.intro @c44_9_s <| And.intro @c44_8_s <| And.intro @c44_7_s <| And.intro @c44_14_s <| And.intro @c44_13_s <| And.intro @c44_6_s <| And.intro @c44_5_s <| And.intro @c44_4_s <| And.intro @c44_2_s <| And.intro @c44_1_s <| And.intro @c44_s <| @w3t_44
-- K44: ↓hk44
/-! ### slices.Clone[[]vouch/api.Version,vouch/api.Version] -/
def V59 : Nat → Bool := fun i => [0, 2, 4].elem i
noncomputable def c59:Code:=(Try.f59.body.getD .skip)
noncomputable def o59_0:Array Oper:=rO (cL c59)
noncomputable def c59_1:Code:=(cR c59)
noncomputable def c59_2:Code:=(cR c59_1)
noncomputable def o59_3:Array Oper:=rO (cL c59_2)
noncomputable def c59_3:Code:=(cL c59_1)
noncomputable def o59_1:Array Oper:=rO (cL c59_3)
noncomputable def c59_4:Code:=(cR c59_3)
noncomputable def c59_5:Code:=(cL c59_4)
noncomputable def o59_2:Array Oper:=rO (cL c59_5)
noncomputable def c59_2_s:=@s_reg Try.prog 8 V59 c59_2 .ret 3 o59_3 (fun N M G k e w =>
    N (xv (Instr.buildSlice 91 0 ([]).toArray)) w fun t5 w =>
    M (e 0) fun t6 =>
    N (builtin Builtin.append #[91, 91] 91 ([false, false]).toArray ([t5, t6]).toArray) w fun t7 w =>
    M t7 fun t2 =>
    k (Env.p e 2 t2) w) (by kernel_rfl) (by intros; kernel_rfl)
noncomputable def c59_5_s:=@s_reg Try.prog 8 V59 c59_5 .ret 2 o59_2 (fun N M G k e w =>
    M (Value.slice none 0 0) fun t2 =>
    k (Env.p e 2 t2) w) (by kernel_rfl) (by intros; kernel_rfl)
noncomputable def c59_4_s:=@s_cond Try.prog 8 V59 c59_4 .skip 4 c59_5 (by kernel_rfl) (by kernel_rfl)
noncomputable def c59_3_s:=@s_reg Try.prog 8 V59 c59_3 c59_4 1 o59_1 (fun N M G k e w =>
    M (e 0) fun t3 =>
    N (xv (xbin BinOp.eql 91 (Operand.tmp 3) (Operand.const (Value.slice none 0 0)) t3 (Value.slice none 0 0))) w fun t4 w =>
    k (Env.p e 4 t4) w) (by kernel_rfl) (by intros; kernel_rfl)
noncomputable def c59_1_s:=@s_seq Try.prog 8 V59 c59_1 c59_2 c59_3 (by kernel_rfl)
noncomputable def c59_s:=@s_reg Try.prog 8 V59 c59 c59_1 0 o59_0 (fun N M G k e w =>
    M (Value.slice none 0 0) fun t2 =>
    k (Env.p e 2 t2) w) (by kernel_rfl) (by intros; kernel_rfl)
theorem call59 {a0 : Value} {w : World} {R : Value → World → Prop} (h : W3 Try.prog 8 V59 c59 (retQ Try.prog [.tmp 2] R) (argE [a0]) w) : CallsN Try.prog 59 [a0] w R :=
  callsN_of_W3 (c := c59) (rs := [.tmp 2]) V59 Try.ntmps59 (by rw [Try.results59]) mixed Try.func59 (by kernel_rfl) (by kernel_rfl) (by kernel_rfl) (by kernel_rfl) (by simp) h
noncomputable def w3t_59:=w3t Try.prog 8 V59
noncomputable def hk59 := And.intro @c59_2_s <| And.intro @c59_5_s <| And.intro @c59_4_s <| And.intro @c59_3_s <| And.intro @c59_1_s <| And.intro @c59_s <| @w3t_59
-- K59: ↓hk59
/-! ### (*vouch/store.Store) . Clone -/
def V28 : Nat → Bool := fun i => [0, 2, 4].elem i
noncomputable def c28:Code:=(Try.f28.body.getD .skip)
noncomputable def o28_0:Array Oper:=rO (cL c28)
noncomputable def c28_1:Code:=(cR c28)
noncomputable def c28_2:Code:=(cR c28_1)
noncomputable def o28_3:Array Oper:=rO (cL c28_2)
noncomputable def b28_3:List Row:=[(0, 0, 1, 6, true), (1, 1, 32, 7, true), (2, 3, 64, 8, true), (4, 7, 128, 9, true), (8, 15, 256, 10, false), (0, 0, 1, 11, true), (32, 32, 1024, 12, true), (64, 96, 2048, 13, true), (128, 224, 4096, 14, true), (0, 0, 1, 15, true), (512, 512, 16384, 16, true), (1024, 1536, 32768, 17, true), (2048, 3584, 65536, 18, true), (4368, 8191, 139776, 19, true), (8192, 16383, 262144, 20, false), (32767, 32767, 524288, 3, true)]
noncomputable def c28_3:Code:=(cL c28_1)
noncomputable def o28_1:Array Oper:=rO (cL c28_3)
noncomputable def c28_4:Code:=(cR c28_3)
noncomputable def c28_5:Code:=(cL c28_4)
noncomputable def o28_2:Array Oper:=rO (cL c28_5)
noncomputable def c28_2_s:=@s_drw Try.prog 20 V28 c28_2 .ret 3 o28_3 b28_3 16 (fun N T M G H Y k e w =>
    M (e 0) fun t5 =>
    T (FrX none w) (xnil t5) fun t6 =>
    T (FrX none w) (xv (Instr.fieldAt 75 t6 0)) fun t7 =>
    T (FrX (some []) w) (xv (Instr.loadAt 73 t7)) fun t8 =>
    M (e 0) fun t10 =>
    T (FrX none w) (xnil t10) fun t11 =>
    T (FrX none w) (xv (Instr.fieldAt 75 t11 1)) fun t12 =>
    T (FrX (some []) w) (xv (Instr.loadAt 3 t12)) fun t13 =>
    M (e 0) fun t14 =>
    T (FrX none w) (xnil t14) fun t15 =>
    T (FrX none w) (xv (Instr.fieldAt 75 t15 2)) fun t16 =>
    T (FrX (some []) w) (xv (Instr.loadAt 2 t16)) fun t17 =>
    N (xcall (Value.func (Fn.func 46) #[] #[]) [t8]) w fun t9 w4 =>
    Y true (xv (Instr.loadAt 2 t16)) t17 w w4 ∧ (Y true (xv (Instr.loadAt 3 t12)) t13 w w4 ∧ (T (FrX none w4) (xv (Instr.build 75 ([(0, t9), (1, t13), (2, t17)]).toArray)) fun t18 =>
    N (xv (Instr.box 75 t18)) w4 fun t19 w14 =>
    M t19 fun t2 =>
    k (Env.p e 2 t2) w14))) (by kernel_rfl) (by kernel_rfl) (by kernel_rfl) (by intros; kernel_rfl)
noncomputable def c28_5_s:=@s_reg Try.prog 20 V28 c28_5 .ret 2 o28_2 (fun N M G k e w =>
    M (Value.pointer none) fun t2 =>
    k (Env.p e 2 t2) w) (by kernel_rfl) (by intros; kernel_rfl)
noncomputable def c28_4_s:=@s_cond Try.prog 20 V28 c28_4 .skip 4 c28_5 (by kernel_rfl) (by kernel_rfl)
noncomputable def c28_3_s:=@s_reg Try.prog 20 V28 c28_3 c28_4 1 o28_1 (fun N M G k e w =>
    M (e 0) fun t3 =>
    N (xv (xbin BinOp.eql 60 (Operand.tmp 3) (Operand.const (Value.pointer none)) t3 (Value.pointer none))) w fun t4 w =>
    k (Env.p e 4 t4) w) (by kernel_rfl) (by intros; kernel_rfl)
noncomputable def c28_1_s:=@s_seq Try.prog 20 V28 c28_1 c28_2 c28_3 (by kernel_rfl)
noncomputable def c28_s:=@s_reg Try.prog 20 V28 c28 c28_1 0 o28_0 (fun N M G k e w =>
    M (Value.pointer none) fun t2 =>
    k (Env.p e 2 t2) w) (by kernel_rfl) (by intros; kernel_rfl)
theorem call28 {a0 : Value} {w : World} {R : Value → World → Prop} (h : W3 Try.prog 20 V28 c28 (retQ Try.prog [.tmp 2] R) (argE [a0]) w) : CallsN Try.prog 28 [a0] w R :=
  callsN_of_W3 (c := c28) (rs := [.tmp 2]) V28 Try.ntmps28 (by rw [Try.results28]) mixed Try.func28 (by kernel_rfl) (by kernel_rfl) (by kernel_rfl) (by kernel_rfl) (by simp) h
noncomputable def w3t_28:=w3t Try.prog 20 V28
noncomputable def hk28 := And.intro @c28_2_s <| And.intro @c28_5_s <| And.intro @c28_4_s <| And.intro @c28_3_s <| And.intro @c28_1_s <| And.intro @c28_s <| @w3t_28
-- K28: ↓hk28
end
end Go.Proofs.Ytgloomahpjpiiaa
