/- The equations of the code of some functions, written by the printer gen3.py: each is checked by the kernel. -/
import Derived.Test.YtgloomahpjpiiaaQ0
import Derived.Test.YtgloomahpjpiiaaCI
set_option linter.unusedVariables false
set_option linter.unusedSimpArgs false
set_option maxRecDepth 100000
namespace Go.Proofs.Ytgloomahpjpiiaa
open Go.VW
noncomputable section
set_option linter.defProp false
variable {N : NT} {T : T3T} {M : MT} {G : GT} {H : HT} {Y : YT} {k : KT} {Q : Exit → Env → World → Prop} {e el eg : Env} {w u0 u1 u2 u3 u4 u5 u6 u7 u8 u9 : World}
/-! ### vouch/stream.New -/
def V19 : Nat → Bool := fun i => [0].elem i
noncomputable def c19:Code:=(Try.f19.body.getD .skip)
noncomputable def o19_0:Array Oper:=rO (cL c19)
noncomputable def c19_1:Code:=(cR c19)
noncomputable def o19_1:Array Oper:=rO (cL c19_1)
noncomputable def c19_1_s:=@s_reg Try.prog 3 V19 c19_1 .ret 1 o19_1 (fun N M G k e w =>
    N (xv (Instr.build 78 ([]).toArray)) w fun t1 w =>
    N (xv (Instr.box 78 t1)) w fun t2 w =>
    M t2 fun t0 =>
    k (Env.p e 0 t0) w) (by kernel_rfl) (by intros; kernel_rfl)
noncomputable def c19_s:=@s_reg Try.prog 3 V19 c19 c19_1 0 o19_0 (fun N M G k e w =>
    M (Value.pointer none) fun t0 =>
    k (Env.p e 0 t0) w) (by kernel_rfl) (by intros; kernel_rfl)
theorem call19 {w : World} {R : Value → World → Prop} (h : W3 Try.prog 3 V19 c19 (retQ Try.prog [.tmp 0] R) (argE []) w) : CallsN Try.prog 19 [] w R :=
  callsN_of_W3 (c := c19) (rs := [.tmp 0]) V19 Try.ntmps19 (by rw [Try.results19]) mixed Try.func19 (by kernel_rfl) (by kernel_rfl) (by kernel_rfl) (by kernel_rfl) (by simp) h
noncomputable def w3t_19:=w3t Try.prog 3 V19
noncomputable def hk19 := And.intro @c19_1_s <| And.intro @c19_s <| @w3t_19
-- K19: ↓hk19
/-! ### (*vouch/stream.Log) . Last -/
def V41 : Nat → Bool := fun i => [0, 2, 4].elem i
noncomputable def c41:Code:=(Try.f41.body.getD .skip)
noncomputable def o41_0:Array Oper:=rO (cL c41)
noncomputable def c41_1:Code:=(cR c41)
noncomputable def c41_2:Code:=(cR c41_1)
noncomputable def o41_3:Array Oper:=rO (cL c41_2)
noncomputable def c41_3:Code:=(cL c41_1)
noncomputable def o41_1:Array Oper:=rO (cL c41_3)
noncomputable def c41_4:Code:=(cR c41_3)
noncomputable def c41_5:Code:=(cL c41_4)
noncomputable def o41_2:Array Oper:=rO (cL c41_5)
noncomputable def c41_2_s:=@s_reg Try.prog 10 V41 c41_2 .ret 3 o41_3 (fun N M G k e w =>
    M (e 0) fun t5 =>
    N (xnil t5) w fun t6 w =>
    N (xv (Instr.fieldAt 78 t6 0)) w fun t7 w =>
    N (xv (Instr.loadAt 76 t7)) w fun t8 w =>
    N (builtin Builtin.len #[76] 3 ([false]).toArray ([t8]).toArray) w fun t9 w =>
    M t9 fun t2 =>
    k (Env.p e 2 t2) w) (by kernel_rfl) (by intros; kernel_rfl)
noncomputable def c41_5_s:=@s_reg Try.prog 10 V41 c41_5 .ret 2 o41_2 (fun N M G k e w =>
    M (Value.int IntKind.i64 0) fun t2 =>
    k (Env.p e 2 t2) w) (by kernel_rfl) (by intros; kernel_rfl)
noncomputable def c41_4_s:=@s_cond Try.prog 10 V41 c41_4 .skip 4 c41_5 (by kernel_rfl) (by kernel_rfl)
noncomputable def c41_3_s:=@s_reg Try.prog 10 V41 c41_3 c41_4 1 o41_1 (fun N M G k e w =>
    M (e 0) fun t3 =>
    N (xv (xbin BinOp.eql 62 (Operand.tmp 3) (Operand.const (Value.pointer none)) t3 (Value.pointer none))) w fun t4 w =>
    k (Env.p e 4 t4) w) (by kernel_rfl) (by intros; kernel_rfl)
noncomputable def c41_1_s:=@s_seq Try.prog 10 V41 c41_1 c41_2 c41_3 (by kernel_rfl)
noncomputable def c41_s:=@s_reg Try.prog 10 V41 c41 c41_1 0 o41_0 (fun N M G k e w =>
    M (Value.int IntKind.i64 0) fun t2 =>
    k (Env.p e 2 t2) w) (by kernel_rfl) (by intros; kernel_rfl)
theorem call41 {a0 : Value} {w : World} {R : Value → World → Prop} (h : W3 Try.prog 10 V41 c41 (retQ Try.prog [.tmp 2] R) (argE [a0]) w) : CallsN Try.prog 41 [a0] w R :=
  callsN_of_W3 (c := c41) (rs := [.tmp 2]) V41 Try.ntmps41 (by rw [Try.results41]) mixed Try.func41 (by kernel_rfl) (by kernel_rfl) (by kernel_rfl) (by kernel_rfl) (by simp) h
noncomputable def w3t_41:=w3t Try.prog 10 V41
noncomputable def hk41 := And.intro @c41_2_s <| And.intro @c41_5_s <| And.intro @c41_4_s <| And.intro @c41_3_s <| And.intro @c41_1_s <| And.intro @c41_s <| @w3t_41
-- K41: ↓hk41
/-! ### (*vouch/stream.Log) . From -/
def V25 : Nat → Bool := fun i => [0, 1, 2, 6, 7, 8, 21].elem i
noncomputable def c25:Code:=(Try.f25.body.getD .skip)
noncomputable def o25_0:Array Oper:=rO (cL c25)
noncomputable def c25_1:Code:=(cR c25)
noncomputable def o25_1:Array Oper:=rO (cL c25_1)
noncomputable def c25_2:Code:=(cR c25_1)
noncomputable def c25_3:Code:=(cR c25_2)
noncomputable def o25_7:Array Oper:=rO (cL c25_3)
noncomputable def c25_4:Code:=(cL c25_2)
noncomputable def o25_2:Array Oper:=rO (cL c25_4)
noncomputable def c25_5:Code:=(cR c25_4)
noncomputable def c25_6:Code:=(cL c25_5)
noncomputable def c25_7:Code:=(cL c25_6)
noncomputable def c25_8:Code:=(cR c25_7)
noncomputable def c25_9:Code:=(cR c25_8)
noncomputable def o25_4:Array Oper:=rO c25_9
noncomputable def c25_10:Code:=(cL c25_8)
noncomputable def c25_11:Code:=(cL c25_10)
noncomputable def o25_5:Array Oper:=rO (cL c25_11)
noncomputable def c25_12:Code:=(cR c25_11)
noncomputable def o25_6:Array Oper:=rO c25_12
noncomputable def c25_13:Code:=(cL c25_7)
noncomputable def o25_3:Array Oper:=rO (cL c25_13)
noncomputable def c25_14:Code:=(cR c25_13)
noncomputable def c25_3_s:=@s_reg Try.prog 35 V25 c25_3 .ret 7 o25_7 (fun N M G k e w =>
    M (e 7) fun t34 =>
    M t34 fun t6 =>
    k (Env.p e 6 t6) w) (by kernel_rfl) (by intros; kernel_rfl)
noncomputable def c25_9_s:=@s_rend Try.prog 35 V25 c25_9 4 o25_4 (fun N M G k e w =>
    M (e 1) fun t22 =>
    N (xv (xbin BinOp.add 2 (Operand.tmp 22) (Operand.const (Value.int IntKind.i64 1)) t22 (Value.int IntKind.i64 1))) w fun t23 w =>
    M t23 fun t1 =>
    k (Env.p e 1 t1) w) (by kernel_rfl) (by intros; kernel_rfl)
noncomputable def c25_12_s:=@s_rend Try.prog 35 V25 c25_12 6 o25_6 (fun N M G k e w =>
    M (e 7) fun t30 =>
    N (xv (Instr.loadAt 88 (e 8))) w fun t31 w =>
    N (xv (Instr.buildSlice 45 1 ([(0, t31)]).toArray)) w fun t32 w =>
    N (builtin Builtin.append #[45, 45] 45 ([false, false]).toArray ([t30, t32]).toArray) w fun t33 w =>
    M t33 fun t7 =>
    k (Env.p e 7 t7) w) (by kernel_rfl) (by intros; kernel_rfl)
noncomputable def c25_11_s:=@s_reg Try.prog 35 V25 c25_11 c25_12 5 o25_5 (fun N M G k e w =>
    M (e 0) fun t25 =>
    M (e 1) fun t26 =>
    N (xcall (Value.func (Fn.func 42) #[] #[]) [t25, t26]) w fun t27 w =>
    M t27 fun t24 =>
    N (xv (Instr.extract t24 0)) w fun t28 w =>
    N (xv (Instr.extract t24 1)) w fun t29 w =>
    N (xv (Instr.alloc 88 true (.tuple #[]))) w fun t8 w =>
    N (xu (Instr.storeAt 88 t8 t28)) w fun _ w =>
    M t29 fun t9 =>
    k (Env.p e 8 t8) w) (by kernel_rfl) (by intros; kernel_rfl)
noncomputable def c25_10_s:=@s_block Try.prog 35 V25 c25_10 c25_11 1 (by kernel_rfl)
noncomputable def c25_8_s:=@s_seq Try.prog 35 V25 c25_8 c25_9 c25_10 (by kernel_rfl)
noncomputable def c25_14_s:=@s_cond Try.prog 35 V25 c25_14 (.exit 0) 21 .skip (by kernel_rfl) (by kernel_rfl)
noncomputable def c25_13_s:=@s_reg Try.prog 35 V25 c25_13 c25_14 3 o25_3 (fun N M G k e w =>
    M (e 1) fun t12 =>
    M (e 0) fun t13 =>
    N (xcall (Value.func (Fn.func 41) #[] #[]) [t13]) w fun t14 w =>
    N (xv (xbin BinOp.leq 2 (Operand.tmp 12) (Operand.tmp 14) t12 t14)) w fun t15 w =>
    M t15 fun t16 =>
    G (isB t16 true) (fun K => M (e 7) fun v => K v w) (fun t17 w =>
    G (isB t16 true) (fun K => N (builtin Builtin.len #[45] 3 ([false]).toArray ([t17]).toArray) w K) (fun t18 w =>
    G (isB t16 true) (fun K => M (e 2) fun v => K v w) (fun t19 w =>
    G (isB t16 true) (fun K => N (xv (xbin BinOp.lss 3 (Operand.tmp 18) (Operand.tmp 19) t18 t19)) w K) (fun t20 w =>
    N (xpick t16 t20 (Value.bool false)) w fun t21 w =>
    k (Env.p e 21 t21) w) w) w) w) w) (by kernel_rfl) (by intros; kernel_rfl)
noncomputable def c25_7_s:=@s_seq Try.prog 35 V25 c25_7 c25_8 c25_13 (by kernel_rfl)
noncomputable def c25_6_s:=@s_loop Try.prog 35 V25 c25_6 c25_7 (by kernel_rfl)
noncomputable def c25_5_s:=@s_block Try.prog 35 V25 c25_5 c25_6 0 (by kernel_rfl)
noncomputable def c25_4_s:=@s_reg Try.prog 35 V25 c25_4 c25_5 2 o25_2 (fun N M G k e w =>
    M (e 1) fun t10 =>
    N (builtin Builtin.max #[2, 2] 2 ([false, true]).toArray ([t10, (Value.int IntKind.i64 1)]).toArray) w fun t11 w =>
    M t11 fun t1 =>
    k (Env.p e 1 t1) w) (by kernel_rfl) (by intros; kernel_rfl)
noncomputable def c25_2_s:=@s_seq Try.prog 35 V25 c25_2 c25_3 c25_4 (by kernel_rfl)
noncomputable def c25_1_s:=@s_reg Try.prog 35 V25 c25_1 c25_2 1 o25_1 (fun N M G k e w =>
    M (Value.slice none 0 0) fun t7 =>
    k (Env.p e 7 t7) w) (by kernel_rfl) (by intros; kernel_rfl)
noncomputable def c25_s:=@s_reg Try.prog 35 V25 c25 c25_1 0 o25_0 (fun N M G k e w =>
    M (Value.slice none 0 0) fun t6 =>
    k (Env.p e 6 t6) w) (by kernel_rfl) (by intros; kernel_rfl)
theorem call25 {a0 a1 a2 : Value} {w : World} {R : Value → World → Prop} (h : W3 Try.prog 35 V25 c25 (retQ Try.prog [.tmp 6] R) (argE [a0, a1, a2]) w) : CallsN Try.prog 25 [a0, a1, a2] w R :=
  callsN_of_W3 (c := c25) (rs := [.tmp 6]) V25 Try.ntmps25 (by rw [Try.results25]) mixed Try.func25 (by kernel_rfl) (by kernel_rfl) (by kernel_rfl) (by kernel_rfl) (by simp) h
noncomputable def w3t_25:=w3t Try.prog 35 V25
noncomputable def hk25 := And.intro @c25_3_s <| And.intro @c25_9_s <| And.intro @c25_12_s <| And.intro @c25_11_s <| And.intro @c25_10_s <| And.intro @c25_8_s <| And.intro @c25_14_s <| And.intro @c25_13_s <| And.intro @c25_7_s <| And.intro @c25_6_s <| And.intro @c25_5_s <| And.intro @c25_4_s <| And.intro @c25_2_s <| And.intro @c25_1_s <| And.intro @c25_s <| @w3t_25
-- K25: ↓hk25
/-! ### (*vouch/stream.Log) . Get -/
def V42 : Nat → Bool := fun i => [0, 1, 4, 5, 13].elem i
noncomputable def c42:Code:=(Try.f42.body.getD .skip)
noncomputable def o42_0:Array Oper:=rO (cL c42)
noncomputable def c42_1:Code:=(cR c42)
noncomputable def c42_2:Code:=(cR c42_1)
noncomputable def o42_3:Array Oper:=rO (cL c42_2)
noncomputable def c42_3:Code:=(cL c42_1)
noncomputable def o42_1:Array Oper:=rO (cL c42_3)
noncomputable def c42_4:Code:=(cR c42_3)
noncomputable def c42_5:Code:=(cL c42_4)
noncomputable def o42_2:Array Oper:=rO (cL c42_5)
noncomputable def c42_2_s:=@s_reg Try.prog 26 V42 c42_2 .ret 3 o42_3 (fun N M G k e w =>
    M (e 1) fun t15 =>
    M (e 0) fun t16 =>
    N (xnil t16) w fun t17 w =>
    N (xv (Instr.fieldAt 78 t17 0)) w fun t18 w =>
    N (xv (Instr.loadAt 76 t18)) w fun t19 w =>
    M (e 1) fun t20 =>
    N (xv (xbin BinOp.sub 2 (Operand.tmp 20) (Operand.const (Value.int IntKind.i64 1)) t20 (Value.int IntKind.i64 1))) w fun t21 w =>
    N (xv (Instr.indexAt 76 t19 t21)) w fun t22 w =>
    N (xv (Instr.loadAt 38 t22)) w fun t23 w =>
    N (xcall (Value.func (Fn.func 61) #[] #[]) [t23]) w fun t24 w =>
    N (xv (Instr.build 88 ([(0, t15), (1, t24)]).toArray)) w fun t25 w =>
    N (xu (Instr.storeAt 88 (e 4) t25)) w fun _ w =>
    M (Value.int IntKind.i64 0) fun t5 =>
    k (Env.p e 5 t5) w) (by kernel_rfl) (by intros; kernel_rfl)
noncomputable def c42_5_s:=@s_reg Try.prog 26 V42 c42_5 .ret 2 o42_2 (fun N M G k e w =>
    N (xv (Instr.build 88 ([]).toArray)) w fun t14 w =>
    N (xu (Instr.storeAt 88 (e 4) t14)) w fun _ w =>
    M (Value.int IntKind.i64 3) fun t5 =>
    k (Env.p e 5 t5) w) (by kernel_rfl) (by intros; kernel_rfl)
noncomputable def c42_4_s:=@s_cond Try.prog 26 V42 c42_4 .skip 13 c42_5 (by kernel_rfl) (by kernel_rfl)
noncomputable def c42_3_s:=@s_reg Try.prog 26 V42 c42_3 c42_4 1 o42_1 (fun N M G k e w =>
    M (e 1) fun t6 =>
    N (xv (xbin BinOp.lss 2 (Operand.tmp 6) (Operand.const (Value.int IntKind.i64 1)) t6 (Value.int IntKind.i64 1))) w fun t7 w =>
    M t7 fun t8 =>
    G (isB t8 false) (fun K => M (e 1) fun v => K v w) (fun t9 w =>
    G (isB t8 false) (fun K => M (e 0) fun v => K v w) (fun t10 w =>
    G (isB t8 false) (fun K => N (xcall (Value.func (Fn.func 41) #[] #[]) [t10]) w K) (fun t11 w =>
    G (isB t8 false) (fun K => N (xv (xbin BinOp.gtr 2 (Operand.tmp 9) (Operand.tmp 11) t9 t11)) w K) (fun t12 w =>
    N (xpick t8 (Value.bool true) t12) w fun t13 w =>
    k (Env.p e 13 t13) w) w) w) w) w) (by kernel_rfl) (by intros; kernel_rfl)
noncomputable def c42_1_s:=@s_seq Try.prog 26 V42 c42_1 c42_2 c42_3 (by kernel_rfl)
noncomputable def c42_s:=@s_reg Try.prog 26 V42 c42 c42_1 0 o42_0 (fun N M G k e w =>
    N (xv (Instr.alloc 88 true (.tuple #[]))) w fun t4 w =>
    M (Value.int IntKind.i64 0) fun t5 =>
    k (Env.p (Env.p e 4 t4) 5 t5) w) (by kernel_rfl) (by intros; kernel_rfl)
theorem call42 {a0 a1 : Value} {w : World} {R : Value → World → Prop} (h : W3 Try.prog 26 V42 c42 (retQ Try.prog [.cell 4 88, .tmp 5] R) (argE [a0, a1]) w) : CallsN Try.prog 42 [a0, a1] w R :=
  callsN_of_W3 (c := c42) (rs := [.cell 4 88, .tmp 5]) V42 Try.ntmps42 (by rw [Try.results42]) mixed Try.func42 (by kernel_rfl) (by kernel_rfl) (by kernel_rfl) (by kernel_rfl) (by simp) h
noncomputable def w3t_42:=w3t Try.prog 26 V42
noncomputable def hk42 := And.intro @c42_2_s <| And.intro @c42_5_s <| And.intro @c42_4_s <| And.intro @c42_3_s <| And.intro @c42_1_s <| And.intro @c42_s <| @w3t_42
-- K42: ↓hk42
/-! ### (*vouch/stream.Log) . Clone -/
def V29 : Nat → Bool := fun i => [0, 2, 4].elem i
noncomputable def c29:Code:=(Try.f29.body.getD .skip)
noncomputable def o29_0:Array Oper:=rO (cL c29)
noncomputable def c29_1:Code:=(cR c29)
noncomputable def c29_2:Code:=(cR c29_1)
noncomputable def o29_3:Array Oper:=rO (cL c29_2)
noncomputable def c29_3:Code:=(cL c29_1)
noncomputable def o29_1:Array Oper:=rO (cL c29_3)
noncomputable def c29_4:Code:=(cR c29_3)
noncomputable def c29_5:Code:=(cL c29_4)
noncomputable def o29_2:Array Oper:=rO (cL c29_5)
noncomputable def c29_2_s:=@s_reg Try.prog 12 V29 c29_2 .ret 3 o29_3 (fun N M G k e w =>
    M (e 0) fun t5 =>
    N (xnil t5) w fun t6 w =>
    N (xv (Instr.fieldAt 78 t6 0)) w fun t7 w =>
    N (xv (Instr.loadAt 76 t7)) w fun t8 w =>
    N (xcall (Value.func (Fn.func 47) #[] #[]) [t8]) w fun t9 w =>
    N (xv (Instr.build 78 ([(0, t9)]).toArray)) w fun t10 w =>
    N (xv (Instr.box 78 t10)) w fun t11 w =>
    M t11 fun t2 =>
    k (Env.p e 2 t2) w) (by kernel_rfl) (by intros; kernel_rfl)
noncomputable def c29_5_s:=@s_reg Try.prog 12 V29 c29_5 .ret 2 o29_2 (fun N M G k e w =>
    M (Value.pointer none) fun t2 =>
    k (Env.p e 2 t2) w) (by kernel_rfl) (by intros; kernel_rfl)
noncomputable def c29_4_s:=@s_cond Try.prog 12 V29 c29_4 .skip 4 c29_5 (by kernel_rfl) (by kernel_rfl)
noncomputable def c29_3_s:=@s_reg Try.prog 12 V29 c29_3 c29_4 1 o29_1 (fun N M G k e w =>
    M (e 0) fun t3 =>
    N (xv (xbin BinOp.eql 62 (Operand.tmp 3) (Operand.const (Value.pointer none)) t3 (Value.pointer none))) w fun t4 w =>
    k (Env.p e 4 t4) w) (by kernel_rfl) (by intros; kernel_rfl)
noncomputable def c29_1_s:=@s_seq Try.prog 12 V29 c29_1 c29_2 c29_3 (by kernel_rfl)
noncomputable def c29_s:=@s_reg Try.prog 12 V29 c29 c29_1 0 o29_0 (fun N M G k e w =>
    M (Value.pointer none) fun t2 =>
    k (Env.p e 2 t2) w) (by kernel_rfl) (by intros; kernel_rfl)
theorem call29 {a0 : Value} {w : World} {R : Value → World → Prop} (h : W3 Try.prog 12 V29 c29 (retQ Try.prog [.tmp 2] R) (argE [a0]) w) : CallsN Try.prog 29 [a0] w R :=
  callsN_of_W3 (c := c29) (rs := [.tmp 2]) V29 Try.ntmps29 (by rw [Try.results29]) mixed Try.func29 (by kernel_rfl) (by kernel_rfl) (by kernel_rfl) (by kernel_rfl) (by simp) h
noncomputable def w3t_29:=w3t Try.prog 12 V29
noncomputable def hk29 := And.intro @c29_2_s <| And.intro @c29_5_s <| And.intro @c29_4_s <| And.intro @c29_3_s <| And.intro @c29_1_s <| And.intro @c29_s <| @w3t_29
-- K29: ↓hk29
/-! ### vouch/stream.check -/
def V60 : Nat → Bool := fun i => [0, 2, 4, 5, 13, 14, 15, 16, 17, 26, 36].elem i
noncomputable def c60:Code:=(Try.f60.body.getD .skip)
noncomputable def o60_0:Array Oper:=rO (cL c60)
noncomputable def c60_1:Code:=(cR c60)
noncomputable def c60_2:Code:=(cR c60_1)
noncomputable def c60_3:Code:=(cR c60_2)
noncomputable def o60_9:Array Oper:=rO (cL c60_3)
noncomputable def c60_4:Code:=(cR c60_3)
noncomputable def c60_5:Code:=(cR c60_4)
noncomputable def o60_12:Array Oper:=rO (cL c60_5)
noncomputable def c60_6:Code:=(cL c60_4)
noncomputable def o60_10:Array Oper:=rO (cL c60_6)
noncomputable def c60_7:Code:=(cR c60_6)
noncomputable def c60_8:Code:=(cL c60_7)
noncomputable def o60_11:Array Oper:=rO (cL c60_8)
noncomputable def c60_9:Code:=(cL c60_2)
noncomputable def o60_3:Array Oper:=rO (cL c60_9)
noncomputable def c60_10:Code:=(cR c60_9)
noncomputable def c60_11:Code:=(cL c60_10)
noncomputable def c60_12:Code:=(cL c60_11)
noncomputable def o60_4:Array Oper:=rO (cL c60_12)
noncomputable def c60_13:Code:=(cR c60_12)
noncomputable def c60_14:Code:=(cR c60_13)
noncomputable def c60_15:Code:=(cR c60_14)
noncomputable def o60_8:Array Oper:=rO c60_15
noncomputable def c60_16:Code:=(cL c60_14)
noncomputable def c60_17:Code:=(cL c60_16)
noncomputable def o60_5:Array Oper:=rO (cL c60_17)
noncomputable def c60_18:Code:=(cR c60_17)
noncomputable def o60_6:Array Oper:=rO (cL c60_18)
noncomputable def c60_19:Code:=(cR c60_18)
noncomputable def c60_20:Code:=(cL c60_19)
noncomputable def o60_7:Array Oper:=rO (cL c60_20)
noncomputable def c60_21:Code:=(cL c60_13)
noncomputable def c60_22:Code:=(cL c60_1)
noncomputable def o60_1:Array Oper:=rO (cL c60_22)
noncomputable def c60_23:Code:=(cR c60_22)
noncomputable def c60_24:Code:=(cL c60_23)
noncomputable def o60_2:Array Oper:=rO (cL c60_24)
noncomputable def c60_5_s:=@s_reg Try.prog 37 V60 c60_5 .ret 12 o60_12 (fun N M G k e w =>
    M (Value.int IntKind.i64 0) fun t2 =>
    k (Env.p e 2 t2) w) (by kernel_rfl) (by intros; kernel_rfl)
noncomputable def c60_8_s:=@s_reg Try.prog 37 V60 c60_8 .ret 11 o60_11 (fun N M G k e w =>
    M (Value.int IntKind.i64 22) fun t2 =>
    k (Env.p e 2 t2) w) (by kernel_rfl) (by intros; kernel_rfl)
noncomputable def c60_7_s:=@s_cond Try.prog 37 V60 c60_7 .skip 36 c60_8 (by kernel_rfl) (by kernel_rfl)
noncomputable def c60_6_s:=@s_reg Try.prog 37 V60 c60_6 c60_7 10 o60_10 (fun N M G k e w =>
    M (e 5) fun t31 =>
    N (xcall (Value.func (Fn.func 69) #[] #[]) [t31]) w fun t32 w =>
    N (builtin Builtin.len #[38] 3 ([false]).toArray ([t32]).toArray) w fun t33 w =>
    M (e 0) fun t34 =>
    N (builtin Builtin.len #[38] 3 ([false]).toArray ([t34]).toArray) w fun t35 w =>
    N (xv (xbin BinOp.lss 3 (Operand.tmp 33) (Operand.tmp 35) t33 t35)) w fun t36 w =>
    k (Env.p e 36 t36) w) (by kernel_rfl) (by intros; kernel_rfl)
noncomputable def c60_4_s:=@s_seq Try.prog 37 V60 c60_4 c60_5 c60_6 (by kernel_rfl)
noncomputable def c60_3_s:=@s_reg Try.prog 37 V60 c60_3 c60_4 9 o60_9 (fun N M G k e w =>
    M (e 0) fun t28 =>
    N (xcall (Value.func (Fn.func 68) #[] #[]) [t28]) w fun t29 w =>
    N (xcall (Value.func (Fn.func 67) #[] #[]) [t29]) w fun t30 w =>
    M t30 fun t5 =>
    k (Env.p e 5 t5) w) (by kernel_rfl) (by intros; kernel_rfl)
noncomputable def c60_15_s:=@s_rend Try.prog 37 V60 c60_15 8 o60_8 (fun N M G k e w =>
    N (xv (xbin BinOp.add 3 (Operand.tmp 16) (Operand.const (Value.int IntKind.i64 1)) (e 16) (Value.int IntKind.i64 1))) w fun t27 w =>
    M t27 fun t16 =>
    k (Env.p e 16 t16) w) (by kernel_rfl) (by intros; kernel_rfl)
noncomputable def c60_20_s:=@s_reg Try.prog 37 V60 c60_20 .ret 7 o60_7 (fun N M G k e w =>
    M (Value.int IntKind.i64 1) fun t2 =>
    k (Env.p e 2 t2) w) (by kernel_rfl) (by intros; kernel_rfl)
noncomputable def c60_19_s:=@s_cond Try.prog 37 V60 c60_19 .skip 26 c60_20 (by kernel_rfl) (by kernel_rfl)
noncomputable def c60_18_s:=@s_reg Try.prog 37 V60 c60_18 c60_19 6 o60_6 (fun N M G k e w =>
    M (e 4) fun t20 =>
    N (xv (xbin BinOp.eql 9 (Operand.tmp 20) (Operand.const (Value.string ⟨#[]⟩)) t20 (Value.string ⟨#[]⟩))) w fun t21 w =>
    M t21 fun t22 =>
    G (isB t22 false) (fun K => M (e 4) fun v => K v w) (fun t23 w =>
    G (isB t22 false) (fun K => N (builtin Builtin.len #[9] 3 ([false]).toArray ([t23]).toArray) w K) (fun t24 w =>
    G (isB t22 false) (fun K => N (xv (xbin BinOp.gtr 3 (Operand.tmp 24) (Operand.const (Value.int IntKind.i64 32)) t24 (Value.int IntKind.i64 32))) w K) (fun t25 w =>
    N (xpick t22 (Value.bool true) t25) w fun t26 w =>
    k (Env.p e 26 t26) w) w) w) w) (by kernel_rfl) (by intros; kernel_rfl)
noncomputable def c60_17_s:=@s_reg Try.prog 37 V60 c60_17 c60_18 5 o60_5 (fun N M G k e w =>
    N (xv (Instr.indexAt 38 (e 14) (e 16))) w fun t18 w =>
    N (xv (Instr.loadAt 9 t18)) w fun t19 w =>
    M t19 fun t4 =>
    k (Env.p e 4 t4) w) (by kernel_rfl) (by intros; kernel_rfl)
noncomputable def c60_16_s:=@s_block Try.prog 37 V60 c60_16 c60_17 1 (by kernel_rfl)
noncomputable def c60_14_s:=@s_seq Try.prog 37 V60 c60_14 c60_15 c60_16 (by kernel_rfl)
noncomputable def c60_21_s:=@s_cond Try.prog 37 V60 c60_21 (.exit 0) 17 .skip (by kernel_rfl) (by kernel_rfl)
noncomputable def c60_13_s:=@s_seq Try.prog 37 V60 c60_13 c60_14 c60_21 (by kernel_rfl)
noncomputable def c60_12_s:=@s_reg Try.prog 37 V60 c60_12 c60_13 4 o60_4 (fun N M G k e w =>
    N (xv (xbin BinOp.lss 3 (Operand.tmp 16) (Operand.tmp 15) (e 16) (e 15))) w fun t17 w =>
    k (Env.p e 17 t17) w) (by kernel_rfl) (by intros; kernel_rfl)
noncomputable def c60_11_s:=@s_loop Try.prog 37 V60 c60_11 c60_12 (by kernel_rfl)
noncomputable def c60_10_s:=@s_block Try.prog 37 V60 c60_10 c60_11 0 (by kernel_rfl)
noncomputable def c60_9_s:=@s_reg Try.prog 37 V60 c60_9 c60_10 3 o60_3 (fun N M G k e w =>
    M (e 0) fun t14 =>
    N (builtin Builtin.len #[38] 3 ([false]).toArray ([t14]).toArray) w fun t15 w =>
    M (Value.int IntKind.i64 0) fun t16 =>
    k (Env.p (Env.p (Env.p e 14 t14) 15 t15) 16 t16) w) (by kernel_rfl) (by intros; kernel_rfl)
noncomputable def c60_2_s:=@s_seq Try.prog 37 V60 c60_2 c60_3 c60_9 (by kernel_rfl)
noncomputable def c60_24_s:=@s_reg Try.prog 37 V60 c60_24 .ret 2 o60_2 (fun N M G k e w =>
    M (Value.int IntKind.i64 1) fun t2 =>
    k (Env.p e 2 t2) w) (by kernel_rfl) (by intros; kernel_rfl)
noncomputable def c60_23_s:=@s_cond Try.prog 37 V60 c60_23 .skip 13 c60_24 (by kernel_rfl) (by kernel_rfl)
noncomputable def c60_22_s:=@s_reg Try.prog 37 V60 c60_22 c60_23 1 o60_1 (fun N M G k e w =>
    M (e 0) fun t6 =>
    N (builtin Builtin.len #[38] 3 ([false]).toArray ([t6]).toArray) w fun t7 w =>
    N (xv (xbin BinOp.eql 3 (Operand.tmp 7) (Operand.const (Value.int IntKind.i64 0)) t7 (Value.int IntKind.i64 0))) w fun t8 w =>
    M t8 fun t9 =>
    G (isB t9 false) (fun K => M (e 0) fun v => K v w) (fun t10 w =>
    G (isB t9 false) (fun K => N (builtin Builtin.len #[38] 3 ([false]).toArray ([t10]).toArray) w K) (fun t11 w =>
    G (isB t9 false) (fun K => N (xv (xbin BinOp.gtr 3 (Operand.tmp 11) (Operand.const (Value.int IntKind.i64 8)) t11 (Value.int IntKind.i64 8))) w K) (fun t12 w =>
    N (xpick t9 (Value.bool true) t12) w fun t13 w =>
    k (Env.p e 13 t13) w) w) w) w) (by kernel_rfl) (by intros; kernel_rfl)
noncomputable def c60_1_s:=@s_seq Try.prog 37 V60 c60_1 c60_2 c60_22 (by kernel_rfl)
noncomputable def c60_s:=@s_reg Try.prog 37 V60 c60 c60_1 0 o60_0 (fun N M G k e w =>
    M (Value.int IntKind.i64 0) fun t2 =>
    k (Env.p e 2 t2) w) (by kernel_rfl) (by intros; kernel_rfl)
theorem call60 {a0 : Value} {w : World} {R : Value → World → Prop} (h : W3 Try.prog 37 V60 c60 (retQ Try.prog [.tmp 2] R) (argE [a0]) w) : CallsN Try.prog 60 [a0] w R :=
  callsN_of_W3 (c := c60) (rs := [.tmp 2]) V60 Try.ntmps60 (by rw [Try.results60]) mixed Try.func60 (by kernel_rfl) (by kernel_rfl) (by kernel_rfl) (by kernel_rfl) (by simp) h
noncomputable def w3t_60:=w3t Try.prog 37 V60
noncomputable def hk60 := And.intro @c60_5_s <| And.intro @c60_8_s <| And.intro @c60_7_s <| And.intro @c60_6_s <| And.intro @c60_4_s <| And.intro @c60_3_s <| And.intro @c60_15_s <| And.intro @c60_20_s <| And.intro @c60_19_s <| And.intro @c60_18_s <| And.intro @c60_17_s <| And.intro @c60_16_s <| And.intro @c60_14_s <| And.intro @c60_21_s <| And.intro @c60_13_s <| And.intro @c60_12_s <| And.intro @c60_11_s <| And.intro @c60_10_s <| And.intro @c60_9_s <| And.intro @c60_2_s <| And.intro @c60_24_s <| And.intro @c60_23_s <| And.intro @c60_22_s <| And.intro @c60_1_s <| And.intro @c60_s <| @w3t_60
-- K60: ↓hk60
/-! ### slices.Clone[[]string,string] -/
def V61 : Nat → Bool := fun i => [0, 2, 4].elem i
noncomputable def c61:Code:=(Try.f61.body.getD .skip)
noncomputable def o61_0:Array Oper:=rO (cL c61)
noncomputable def c61_1:Code:=(cR c61)
noncomputable def c61_2:Code:=(cR c61_1)
noncomputable def o61_3:Array Oper:=rO (cL c61_2)
noncomputable def c61_3:Code:=(cL c61_1)
noncomputable def o61_1:Array Oper:=rO (cL c61_3)
noncomputable def c61_4:Code:=(cR c61_3)
noncomputable def c61_5:Code:=(cL c61_4)
noncomputable def o61_2:Array Oper:=rO (cL c61_5)
noncomputable def c61_2_s:=@s_reg Try.prog 8 V61 c61_2 .ret 3 o61_3 (fun N M G k e w =>
    N (xv (Instr.buildSlice 38 0 ([]).toArray)) w fun t5 w =>
    M (e 0) fun t6 =>
    N (builtin Builtin.append #[38, 38] 38 ([false, false]).toArray ([t5, t6]).toArray) w fun t7 w =>
    M t7 fun t2 =>
    k (Env.p e 2 t2) w) (by kernel_rfl) (by intros; kernel_rfl)
noncomputable def c61_5_s:=@s_reg Try.prog 8 V61 c61_5 .ret 2 o61_2 (fun N M G k e w =>
    M (Value.slice none 0 0) fun t2 =>
    k (Env.p e 2 t2) w) (by kernel_rfl) (by intros; kernel_rfl)
noncomputable def c61_4_s:=@s_cond Try.prog 8 V61 c61_4 .skip 4 c61_5 (by kernel_rfl) (by kernel_rfl)
noncomputable def c61_3_s:=@s_reg Try.prog 8 V61 c61_3 c61_4 1 o61_1 (fun N M G k e w =>
    M (e 0) fun t3 =>
    N (xv (xbin BinOp.eql 38 (Operand.tmp 3) (Operand.const (Value.slice none 0 0)) t3 (Value.slice none 0 0))) w fun t4 w =>
    k (Env.p e 4 t4) w) (by kernel_rfl) (by intros; kernel_rfl)
noncomputable def c61_1_s:=@s_seq Try.prog 8 V61 c61_1 c61_2 c61_3 (by kernel_rfl)
noncomputable def c61_s:=@s_reg Try.prog 8 V61 c61 c61_1 0 o61_0 (fun N M G k e w =>
    M (Value.slice none 0 0) fun t2 =>
    k (Env.p e 2 t2) w) (by kernel_rfl) (by intros; kernel_rfl)
theorem call61 {a0 : Value} {w : World} {R : Value → World → Prop} (h : W3 Try.prog 8 V61 c61 (retQ Try.prog [.tmp 2] R) (argE [a0]) w) : CallsN Try.prog 61 [a0] w R :=
  callsN_of_W3 (c := c61) (rs := [.tmp 2]) V61 Try.ntmps61 (by rw [Try.results61]) mixed Try.func61 (by kernel_rfl) (by kernel_rfl) (by kernel_rfl) (by kernel_rfl) (by simp) h
noncomputable def w3t_61:=w3t Try.prog 8 V61
noncomputable def hk61 := And.intro @c61_2_s <| And.intro @c61_5_s <| And.intro @c61_4_s <| And.intro @c61_3_s <| And.intro @c61_1_s <| And.intro @c61_s <| @w3t_61
-- K61: ↓hk61
/-! ### slices.Clone[[][]string,[]string] -/
def V47 : Nat → Bool := fun i => [0, 2, 4].elem i
noncomputable def c47:Code:=(Try.f47.body.getD .skip)
noncomputable def o47_0:Array Oper:=rO (cL c47)
noncomputable def c47_1:Code:=(cR c47)
noncomputable def c47_2:Code:=(cR c47_1)
noncomputable def o47_3:Array Oper:=rO (cL c47_2)
noncomputable def c47_3:Code:=(cL c47_1)
noncomputable def o47_1:Array Oper:=rO (cL c47_3)
noncomputable def c47_4:Code:=(cR c47_3)
noncomputable def c47_5:Code:=(cL c47_4)
noncomputable def o47_2:Array Oper:=rO (cL c47_5)
noncomputable def c47_2_s:=@s_reg Try.prog 8 V47 c47_2 .ret 3 o47_3 (fun N M G k e w =>
    N (xv (Instr.buildSlice 76 0 ([]).toArray)) w fun t5 w =>
    M (e 0) fun t6 =>
    N (builtin Builtin.append #[76, 76] 76 ([false, false]).toArray ([t5, t6]).toArray) w fun t7 w =>
    M t7 fun t2 =>
    k (Env.p e 2 t2) w) (by kernel_rfl) (by intros; kernel_rfl)
noncomputable def c47_5_s:=@s_reg Try.prog 8 V47 c47_5 .ret 2 o47_2 (fun N M G k e w =>
    M (Value.slice none 0 0) fun t2 =>
    k (Env.p e 2 t2) w) (by kernel_rfl) (by intros; kernel_rfl)
noncomputable def c47_4_s:=@s_cond Try.prog 8 V47 c47_4 .skip 4 c47_5 (by kernel_rfl) (by kernel_rfl)
noncomputable def c47_3_s:=@s_reg Try.prog 8 V47 c47_3 c47_4 1 o47_1 (fun N M G k e w =>
    M (e 0) fun t3 =>
    N (xv (xbin BinOp.eql 76 (Operand.tmp 3) (Operand.const (Value.slice none 0 0)) t3 (Value.slice none 0 0))) w fun t4 w =>
    k (Env.p e 4 t4) w) (by kernel_rfl) (by intros; kernel_rfl)
noncomputable def c47_1_s:=@s_seq Try.prog 8 V47 c47_1 c47_2 c47_3 (by kernel_rfl)
noncomputable def c47_s:=@s_reg Try.prog 8 V47 c47 c47_1 0 o47_0 (fun N M G k e w =>
    M (Value.slice none 0 0) fun t2 =>
    k (Env.p e 2 t2) w) (by kernel_rfl) (by intros; kernel_rfl)
theorem call47 {a0 : Value} {w : World} {R : Value → World → Prop} (h : W3 Try.prog 8 V47 c47 (retQ Try.prog [.tmp 2] R) (argE [a0]) w) : CallsN Try.prog 47 [a0] w R :=
  callsN_of_W3 (c := c47) (rs := [.tmp 2]) V47 Try.ntmps47 (by rw [Try.results47]) mixed Try.func47 (by kernel_rfl) (by kernel_rfl) (by kernel_rfl) (by kernel_rfl) (by simp) h
noncomputable def w3t_47:=w3t Try.prog 8 V47
noncomputable def hk47 := And.intro @c47_2_s <| And.intro @c47_5_s <| And.intro @c47_4_s <| And.intro @c47_3_s <| And.intro @c47_1_s <| And.intro @c47_s <| @w3t_47
-- K47: ↓hk47
/-! ### slices.Sorted[string] -/
def V67 : Nat → Bool := fun i => [0, 2, 3].elem i
noncomputable def c67:Code:=(Try.f67.body.getD .skip)
noncomputable def o67_0:Array Oper:=rO (cL c67)
noncomputable def c67_1:Code:=(cR c67)
noncomputable def o67_1:Array Oper:=rO (cL c67_1)
noncomputable def c67_2:Code:=(cR c67_1)
noncomputable def o67_2:Array Oper:=rO (cL c67_2)
noncomputable def c67_3:Code:=(cR c67_2)
noncomputable def o67_3:Array Oper:=rO (cL c67_3)
noncomputable def c67_3_s:=@s_reg Try.prog 9 V67 c67_3 .ret 3 o67_3 (fun N M G k e w =>
    M (e 3) fun t8 =>
    M t8 fun t2 =>
    k (Env.p e 2 t2) w) (by kernel_rfl) (by intros; kernel_rfl)
noncomputable def c67_2_s:=@s_reg Try.prog 9 V67 c67_2 c67_3 2 o67_2 (fun N M G k e w =>
    M (e 3) fun t6 =>
    N (xcall (Value.func (Fn.func 71) #[] #[]) [t6]) w fun t7 w =>
    k e w) (by kernel_rfl) (by intros; kernel_rfl)
noncomputable def c67_1_s:=@s_reg Try.prog 9 V67 c67_1 c67_2 1 o67_1 (fun N M G k e w =>
    M (e 0) fun t4 =>
    N (xcall (Value.func (Fn.func 70) #[] #[]) [t4]) w fun t5 w =>
    M t5 fun t3 =>
    k (Env.p e 3 t3) w) (by kernel_rfl) (by intros; kernel_rfl)
noncomputable def c67_s:=@s_reg Try.prog 9 V67 c67 c67_1 0 o67_0 (fun N M G k e w =>
    M (Value.slice none 0 0) fun t2 =>
    k (Env.p e 2 t2) w) (by kernel_rfl) (by intros; kernel_rfl)
theorem call67 {a0 : Value} {w : World} {R : Value → World → Prop} (h : W3 Try.prog 9 V67 c67 (retQ Try.prog [.tmp 2] R) (argE [a0]) w) : CallsN Try.prog 67 [a0] w R :=
  callsN_of_W3 (c := c67) (rs := [.tmp 2]) V67 Try.ntmps67 (by rw [Try.results67]) mixed Try.func67 (by kernel_rfl) (by kernel_rfl) (by kernel_rfl) (by kernel_rfl) (by simp) h
noncomputable def w3t_67:=w3t Try.prog 9 V67
noncomputable def hk67 := And.intro @c67_3_s <| And.intro @c67_2_s <| And.intro @c67_1_s <| And.intro @c67_s <| @w3t_67
-- K67: ↓hk67
/-! ### slices.Values[[]string,string] -/
def V68 : Nat → Bool := fun i => [0, 1, 2].elem i
noncomputable def c68:Code:=(Try.f68.body.getD .skip)
noncomputable def o68_0:Array Oper:=rO (cL c68)
noncomputable def c68_1:Code:=(cR c68)
noncomputable def o68_1:Array Oper:=rO (cL c68_1)
noncomputable def c68_1_s:=@s_reg Try.prog 4 V68 c68_1 .ret 1 o68_1 (fun N M G k e w =>
    N (xv (Instr.makeFunc (Fn.func 72) ([]).toArray ([(e 1)]).toArray)) w fun t3 w =>
    M t3 fun t2 =>
    k (Env.p e 2 t2) w) (by kernel_rfl) (by intros; kernel_rfl)
noncomputable def c68_s:=@s_reg Try.prog 4 V68 c68 c68_1 0 o68_0 (fun N M G k e w =>
    N (xv (Instr.box 38 (e 0))) w fun t1 w =>
    M Value.nilFunc fun t2 =>
    k (Env.p (Env.p e 1 t1) 2 t2) w) (by kernel_rfl) (by intros; kernel_rfl)
theorem call68 {a0 : Value} {w : World} {R : Value → World → Prop} (h : W3 Try.prog 4 V68 c68 (retQ Try.prog [.tmp 2] R) (argE [a0]) w) : CallsN Try.prog 68 [a0] w R :=
  callsN_of_W3 (c := c68) (rs := [.tmp 2]) V68 Try.ntmps68 (by rw [Try.results68]) mixed Try.func68 (by kernel_rfl) (by kernel_rfl) (by kernel_rfl) (by kernel_rfl) (by simp) h
noncomputable def w3t_68:=w3t Try.prog 4 V68
noncomputable def hk68 := And.intro @c68_1_s <| And.intro @c68_s <| @w3t_68
-- K68: ↓hk68
/-! ### slices.Collect[string] -/
def V70 : Nat → Bool := fun i => [0, 2].elem i
noncomputable def c70:Code:=(Try.f70.body.getD .skip)
noncomputable def o70_0:Array Oper:=rO (cL c70)
noncomputable def c70_1:Code:=(cR c70)
noncomputable def o70_1:Array Oper:=rO (cL c70_1)
noncomputable def c70_1_s:=@s_reg Try.prog 5 V70 c70_1 .ret 1 o70_1 (fun N M G k e w =>
    M (e 0) fun t3 =>
    N (xcall (Value.func (Fn.func 73) #[] #[]) [(Value.slice none 0 0), t3]) w fun t4 w =>
    M t4 fun t2 =>
    k (Env.p e 2 t2) w) (by kernel_rfl) (by intros; kernel_rfl)
noncomputable def c70_s:=@s_reg Try.prog 5 V70 c70 c70_1 0 o70_0 (fun N M G k e w =>
    M (Value.slice none 0 0) fun t2 =>
    k (Env.p e 2 t2) w) (by kernel_rfl) (by intros; kernel_rfl)
theorem call70 {a0 : Value} {w : World} {R : Value → World → Prop} (h : W3 Try.prog 5 V70 c70 (retQ Try.prog [.tmp 2] R) (argE [a0]) w) : CallsN Try.prog 70 [a0] w R :=
  callsN_of_W3 (c := c70) (rs := [.tmp 2]) V70 Try.ntmps70 (by rw [Try.results70]) mixed Try.func70 (by kernel_rfl) (by kernel_rfl) (by kernel_rfl) (by kernel_rfl) (by simp) h
noncomputable def w3t_70:=w3t Try.prog 5 V70
noncomputable def hk70 := And.intro @c70_1_s <| And.intro @c70_s <| @w3t_70
-- K70: ↓hk70
end
end Go.Proofs.Ytgloomahpjpiiaa
