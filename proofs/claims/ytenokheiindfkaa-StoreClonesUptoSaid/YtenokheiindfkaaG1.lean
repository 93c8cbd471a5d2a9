/- The equations of the code of some functions, written by the printer gen.py: each is checked by the kernel. -/
import Derived.Test.YtenokheiindfkaaQ0
set_option linter.unusedVariables false
set_option linter.unusedSimpArgs false
set_option maxRecDepth 100000
namespace Go.Proofs.Ytenokheiindfkaa
open Go.VW
noncomputable section
set_option linter.defProp false
variable {N : Sem Next → World → (Value → World → Prop) → Prop} {T : Sem Next → (Value → Prop) → Prop} {M : Value → (Value → Prop) → Prop} {G : Bool → ((Value → World → Prop) → Prop) → (Value → World → Prop) → World → Prop}
  {H : Bool → ((Value → Prop) → Prop) → (Value → Prop) → Prop} {S : World → Prop} {k : Env → World → Prop} {Q : Exit → Env → World → Prop} {e : Env} {w : World}
  {T2 : Nat → Sem Next → (Value → Prop) → Prop} {S2 : Nat → World → Prop}
/-! ### vouch/vouchlaw05.fixed -/
def V15 : Nat → Bool := fun i => [0, 1, 2, 3, 4, 5, 6, 7, 9, 12].elem i
noncomputable def c15 : Code := (Try.f15.body.getD .skip)
noncomputable def o15_0 : Array Oper := rO (cL c15)
noncomputable def c15_1 : Code := (cR c15)
noncomputable def o15_1 : Array Oper := rO (cL c15_1)
noncomputable def c15_2 : Code := (cR c15_1)
noncomputable def c15_3 : Code := (cR c15_2)
noncomputable def o15_4 : Array Oper := rO (cL c15_3)
noncomputable def c15_4 : Code := (cR c15_3)
noncomputable def o15_5 : Array Oper := rO (cL c15_4)
noncomputable def c15_5 : Code := (cR c15_4)
noncomputable def o15_6 : Array Oper := rO (cL c15_5)
noncomputable def c15_6 : Code := (cR c15_5)
noncomputable def o15_7 : Array Oper := rO (cL c15_6)
noncomputable def c15_7 : Code := (cR c15_6)
noncomputable def o15_8 : Array Oper := rO (cL c15_7)
noncomputable def c15_8 : Code := (cL c15_2)
noncomputable def o15_2 : Array Oper := rO (cL c15_8)
noncomputable def c15_9 : Code := (cR c15_8)
noncomputable def c15_10 : Code := (cL c15_9)
noncomputable def o15_3 : Array Oper := rO (cL c15_10)
theorem o15_0_eq : opsW N M G 71 V15 o15_0 k o15_0.toList [] e e w =
    (M (Value.bool false) fun t0 =>
    k (Env.p e 0 t0) w) := nr (by kernel_rfl)
theorem o15_1_eq : opsW N M G 71 V15 o15_1 k o15_1.toList [] e e w =
    (N (xcall (Value.func (Fn.func 16) #[] #[]) [(Value.int IntKind.i64 2)]) w fun t10 w =>
    M t10 fun t1 =>
    k (Env.p e 1 t1) w) := nr (by kernel_rfl)
theorem o15_4_eq : opsW N M G 71 V15 o15_4 k o15_4.toList [] e e w =
    (M (e 1) fun t14 =>
    N (xcall (Value.func (Fn.func 23) #[] #[]) [(Value.string ⟨#[97]⟩), (Value.string ⟨#[49]⟩)]) w fun t15 w =>
    N (xv (Instr.buildSlice 40 1 ([(0, t15)]).toArray)) w fun t16 w =>
    N (xcall (Value.func (Fn.func 21) #[] #[]) [t14, t16]) w fun t17 w =>
    M t17 fun t13 =>
    N (xv (Instr.extract t13 0)) w fun t18 w =>
    N (xv (Instr.extract t13 1)) w fun t19 w =>
    M t18 fun t2 =>
    M t19 fun t3 =>
    k (Env.p (Env.p e 2 t2) 3 t3) w) := nr (by kernel_rfl)
theorem o15_5_eq : opsW N M G 71 V15 o15_5 k o15_5.toList [] e e w =
    (M (e 1) fun t21 =>
    N (xcall (Value.func (Fn.func 23) #[] #[]) [(Value.string ⟨#[97]⟩), (Value.string ⟨#[50]⟩)]) w fun t22 w =>
    N (xcall (Value.func (Fn.func 23) #[] #[]) [(Value.string ⟨#[98]⟩), (Value.string ⟨#[120]⟩)]) w fun t23 w =>
    N (xv (Instr.buildSlice 40 2 ([(0, t22), (1, t23)]).toArray)) w fun t24 w =>
    N (xcall (Value.func (Fn.func 21) #[] #[]) [t21, t24]) w fun t25 w =>
    M t25 fun t20 =>
    N (xv (Instr.extract t20 0)) w fun t26 w =>
    N (xv (Instr.extract t20 1)) w fun t27 w =>
    M t26 fun t4 =>
    M t27 fun t5 =>
    k (Env.p (Env.p e 4 t4) 5 t5) w) := nr (by kernel_rfl)
theorem o15_6_eq : opsW N M G 71 V15 o15_6 k o15_6.toList [] e e w =
    (M (e 1) fun t29 =>
    N (xcall (Value.func (Fn.func 18) #[] #[]) [t29, (Value.string ⟨#[97]⟩), (Value.int IntKind.i64 1)]) w fun t30 w =>
    M t30 fun t28 =>
    N (xv (Instr.extract t28 0)) w fun t31 w =>
    N (xv (Instr.extract t28 1)) w fun t32 w =>
    N (xv (Instr.alloc 31 true (.tuple #[]))) w fun t6 w =>
    N (xu (Instr.storeAt 31 t6 t31)) w fun _ w =>
    M t32 fun t7 =>
    k (Env.p (Env.p e 6 t6) 7 t7) w) := nr (by kernel_rfl)
theorem o15_7_eq : opsW N M G 71 V15 o15_7 k o15_7.toList [] e e w =
    (M (e 1) fun t34 =>
    N (xcall (Value.func (Fn.func 18) #[] #[]) [t34, (Value.string ⟨#[97]⟩), (Value.int IntKind.i64 3)]) w fun t35 w =>
    M t35 fun t33 =>
    N (xv (Instr.extract t33 0)) w fun t36 w =>
    N (xv (Instr.extract t33 1)) w fun t37 w =>
    N (xv (Instr.alloc 31 true (.tuple #[]))) w fun t8 w =>
    N (xu (Instr.storeAt 31 t8 t36)) w fun _ w =>
    M t37 fun t9 =>
    k (Env.p e 9 t9) w) := nr (by kernel_rfl)
theorem o15_8_eq : opsW N M G 71 V15 o15_8 k o15_8.toList [] e e w =
    (M (e 2) fun t38 =>
    N (xv (xbin BinOp.eql 2 (Operand.tmp 38) (Operand.const (Value.int IntKind.i64 1)) t38 (Value.int IntKind.i64 1))) w fun t39 w =>
    M t39 fun t40 =>
    G (isB t40 true) (fun K => M (e 3) fun v => K v w) (fun t41 w =>
    G (isB t40 true) (fun K => N (xv (xbin BinOp.eql 32 (Operand.tmp 41) (Operand.const (Value.int IntKind.i64 0)) t41 (Value.int IntKind.i64 0))) w K) (fun t42 w =>
    N (xpick t40 t42 (Value.bool false)) w fun t43 w =>
    M t43 fun t44 =>
    G (isB t44 true) (fun K => M (e 4) fun v => K v w) (fun t45 w =>
    G (isB t44 true) (fun K => N (xv (xbin BinOp.eql 2 (Operand.tmp 45) (Operand.const (Value.int IntKind.i64 2)) t45 (Value.int IntKind.i64 2))) w K) (fun t46 w =>
    N (xpick t44 t46 (Value.bool false)) w fun t47 w =>
    M t47 fun t48 =>
    G (isB t48 true) (fun K => M (e 5) fun v => K v w) (fun t49 w =>
    G (isB t48 true) (fun K => N (xv (xbin BinOp.eql 32 (Operand.tmp 49) (Operand.const (Value.int IntKind.i64 0)) t49 (Value.int IntKind.i64 0))) w K) (fun t50 w =>
    N (xpick t48 t50 (Value.bool false)) w fun t51 w =>
    M t51 fun t52 =>
    G (isB t52 true) (fun K => N (xv (Instr.loadAt 31 (e 6))) w K) (fun t53 w =>
    G (isB t52 true) (fun K => N (xv (Instr.build 29 ([(0, (Value.bool true)), (1, (Value.string ⟨#[49]⟩))]).toArray)) w K) (fun t54 w =>
    G (isB t52 true) (fun K => N (xv (Instr.build 31 ([(0, (Value.string ⟨#[97]⟩)), (1, t54), (2, (Value.int IntKind.i64 1)), (3, (Value.int IntKind.i64 2))]).toArray)) w K) (fun t55 w =>
    G (isB t52 true) (fun K => N (xv (xbin BinOp.eql 31 (Operand.tmp 53) (Operand.tmp 55) t53 t55)) w K) (fun t56 w =>
    N (xpick t52 t56 (Value.bool false)) w fun t57 w =>
    M t57 fun t58 =>
    G (isB t58 true) (fun K => M (e 7) fun v => K v w) (fun t59 w =>
    G (isB t58 true) (fun K => N (xv (xbin BinOp.eql 32 (Operand.tmp 59) (Operand.const (Value.int IntKind.i64 0)) t59 (Value.int IntKind.i64 0))) w K) (fun t60 w =>
    N (xpick t58 t60 (Value.bool false)) w fun t61 w =>
    M t61 fun t62 =>
    G (isB t62 true) (fun K => M (e 9) fun v => K v w) (fun t63 w =>
    G (isB t62 true) (fun K => N (xv (xbin BinOp.eql 3 (Operand.tmp 63) (Operand.const (Value.int IntKind.i64 21)) t63 (Value.int IntKind.i64 21))) w K) (fun t64 w =>
    N (xpick t62 t64 (Value.bool false)) w fun t65 w =>
    M t65 fun t66 =>
    G (isB t66 true) (fun K => M (e 1) fun v => K v w) (fun t67 w =>
    G (isB t66 true) (fun K => N (xcall (Value.func (Fn.func 22) #[] #[]) [t67]) w K) (fun t68 w =>
    G (isB t66 true) (fun K => N (xv (xbin BinOp.eql 2 (Operand.tmp 68) (Operand.const (Value.int IntKind.i64 2)) t68 (Value.int IntKind.i64 2))) w K) (fun t69 w =>
    N (xpick t66 t69 (Value.bool false)) w fun t70 w =>
    M t70 fun t0 =>
    k (Env.p e 0 t0) w) w) w) w) w) w) w) w) w) w) w) w) w) w) w) w) w) w) := nr (by kernel_rfl)
theorem c15_7_s (hw : Cur w) : W Try.prog 71 V15 c15_7 Q e w = (opsW (nx Try.prog) mv gdP 71 V15 o15_8 (fun e w => Q .ret e w) o15_8.toList [] e e w) := by rw [(by kernel_rfl : c15_7 = .seq (.region 8 o15_8 false) Code.ret), W_seq_reg]; simp only [W_ret, W_skip, W_exit, W_label]
theorem c15_6_s (hw : Cur w) : W Try.prog 71 V15 c15_6 Q e w = (opsW (nx Try.prog) mv gdP 71 V15 o15_7 (fun e w => W Try.prog 71 V15 c15_7 Q e w) o15_7.toList [] e e w) := by rw [(by kernel_rfl : c15_6 = .seq (.region 7 o15_7 false) c15_7), W_seq_reg]
theorem c15_5_s (hw : Cur w) : W Try.prog 71 V15 c15_5 Q e w = (opsW (nx Try.prog) mv gdP 71 V15 o15_6 (fun e w => W Try.prog 71 V15 c15_6 Q e w) o15_6.toList [] e e w) := by rw [(by kernel_rfl : c15_5 = .seq (.region 6 o15_6 false) c15_6), W_seq_reg]
theorem c15_4_s (hw : Cur w) : W Try.prog 71 V15 c15_4 Q e w = (opsW (nx Try.prog) mv gdP 71 V15 o15_5 (fun e w => W Try.prog 71 V15 c15_5 Q e w) o15_5.toList [] e e w) := by rw [(by kernel_rfl : c15_4 = .seq (.region 5 o15_5 false) c15_5), W_seq_reg]
theorem c15_3_s (hw : Cur w) : W Try.prog 71 V15 c15_3 Q e w = (opsW (nx Try.prog) mv gdP 71 V15 o15_4 (fun e w => W Try.prog 71 V15 c15_4 Q e w) o15_4.toList [] e e w) := by rw [(by kernel_rfl : c15_3 = .seq (.region 4 o15_4 false) c15_4), W_seq_reg]
theorem o15_2_eq : opsW N M G 71 V15 o15_2 k o15_2.toList [] e e w =
    (M (e 1) fun t11 =>
    N (xv (xbin BinOp.eql 24 (Operand.tmp 11) (Operand.const (Value.pointer none)) t11 (Value.pointer none))) w fun t12 w =>
    k (Env.p e 12 t12) w) := nr (by kernel_rfl)
theorem o15_3_eq : opsW N M G 71 V15 o15_3 k o15_3.toList [] e e w =
    (M (Value.bool false) fun t0 =>
    k (Env.p e 0 t0) w) := nr (by kernel_rfl)
theorem c15_10_s (hw : Cur w) : W Try.prog 71 V15 c15_10 Q e w = (opsW (nx Try.prog) mv gdP 71 V15 o15_3 (fun e w => Q .ret e w) o15_3.toList [] e e w) := by rw [(by kernel_rfl : c15_10 = .seq (.region 3 o15_3 false) Code.ret), W_seq_reg]; simp only [W_ret, W_skip, W_exit, W_label]
theorem c15_9_v : opV V15 (.tmp 12) = true := by kernel_rfl
theorem c15_9_s (hw : Cur w) : W Try.prog 71 V15 c15_9 Q e w = (condP (ev e (.tmp 12)) (W Try.prog 71 V15 c15_10 Q e w) (Q .normal e w)) := by rw [(by kernel_rfl : c15_9 = .cond (.tmp 12) c15_10 Code.skip), W_cond, c15_9_v, cond_true]; simp only [W_ret, W_skip, W_exit, W_label]
theorem c15_8_s (hw : Cur w) : W Try.prog 71 V15 c15_8 Q e w = (opsW (nx Try.prog) mv gdP 71 V15 o15_2 (fun e w => W Try.prog 71 V15 c15_9 Q e w) o15_2.toList [] e e w) := by rw [(by kernel_rfl : c15_8 = .seq (.region 2 o15_2 false) c15_9), W_seq_reg]
theorem c15_2_s (hw : Cur w) : W Try.prog 71 V15 c15_2 Q e w = (W Try.prog 71 V15 c15_8 (seqQ (fun e w => W Try.prog 71 V15 c15_3 Q e w) Q) e w) := by rw [(by kernel_rfl : c15_2 = .seq c15_8 c15_3), W_seq]
theorem c15_1_s (hw : Cur w) : W Try.prog 71 V15 c15_1 Q e w = (opsW (nx Try.prog) mv gdP 71 V15 o15_1 (fun e w => W Try.prog 71 V15 c15_2 Q e w) o15_1.toList [] e e w) := by rw [(by kernel_rfl : c15_1 = .seq (.region 1 o15_1 false) c15_2), W_seq_reg]
theorem c15_s (hw : Cur w) : W Try.prog 71 V15 c15 Q e w = (opsW (nx Try.prog) mv gdP 71 V15 o15_0 (fun e w => W Try.prog 71 V15 c15_1 Q e w) o15_0.toList [] e e w) := by rw [(by kernel_rfl : c15 = .seq (.region 0 o15_0 false) c15_1), W_seq_reg]
theorem call15 {w : World} {R : Value → World → Prop} (h : W Try.prog 71 V15 c15 (retQ Try.prog [.tmp 0] R) (argE []) w) : CallsN Try.prog 15 [] w R :=
  callsN_of_W (c := c15) (rs := [.tmp 0]) V15 Try.ntmps15 (by rw [Try.results15]) mixed Try.func15 (by kernel_rfl) (by kernel_rfl) (by kernel_rfl) (by kernel_rfl) (by simp) h
noncomputable def hk15 := And.intro (@o15_0_eq) <| And.intro (@o15_1_eq) <| And.intro (@o15_4_eq) <| And.intro (@o15_5_eq) <| And.intro (@o15_6_eq) <| And.intro (@o15_7_eq) <| And.intro (@o15_8_eq) <| And.intro (@c15_7_s) <| And.intro (@c15_6_s) <| And.intro (@c15_5_s) <| And.intro (@c15_4_s) <| And.intro (@c15_3_s) <| And.intro (@o15_2_eq) <| And.intro (@o15_3_eq) <| And.intro (@c15_10_s) <| And.intro (@c15_9_s) <| And.intro (@c15_8_s) <| And.intro (@c15_2_s) <| And.intro (@c15_1_s) <| @c15_s
-- K15: ↓hk15
/-! ### vouch/store.New -/
def V16 : Nat → Bool := fun i => [0, 2].elem i
noncomputable def c16 : Code := (Try.f16.body.getD .skip)
noncomputable def o16_0 : Array Oper := rO (cL c16)
noncomputable def c16_1 : Code := (cR c16)
noncomputable def o16_1 : Array Oper := rO (cL c16_1)
theorem o16_0_eq : opsW N M G 9 V16 o16_0 k o16_0.toList [] e e w =
    (M (Value.pointer none) fun t2 =>
    k (Env.p e 2 t2) w) := nr (by kernel_rfl)
theorem o16_1_eq : opsW N M G 9 V16 o16_1 k o16_1.toList [] e e w =
    (N (xv (Instr.makeMap 109 none)) w fun t3 w =>
    M (e 0) fun t4 =>
    N (builtin Builtin.max #[3, 3] 3 ([false, true]).toArray ([t4, (Value.int IntKind.i64 1)]).toArray) w fun t5 w =>
    N (builtin Builtin.min #[3, 3] 3 ([false, true]).toArray ([t5, (Value.int IntKind.i64 64)]).toArray) w fun t6 w =>
    N (xv (Instr.build 111 ([(0, t3), (1, t6)]).toArray)) w fun t7 w =>
    N (xv (Instr.box 111 t7)) w fun t8 w =>
    M t8 fun t2 =>
    k (Env.p e 2 t2) w) := nr (by kernel_rfl)
theorem c16_1_s (hw : Cur w) : W Try.prog 9 V16 c16_1 Q e w = (opsW (nx Try.prog) mv gdP 9 V16 o16_1 (fun e w => Q .ret e w) o16_1.toList [] e e w) := by rw [(by kernel_rfl : c16_1 = .seq (.region 1 o16_1 false) Code.ret), W_seq_reg]; simp only [W_ret, W_skip, W_exit, W_label]
theorem c16_s (hw : Cur w) : W Try.prog 9 V16 c16 Q e w = (opsW (nx Try.prog) mv gdP 9 V16 o16_0 (fun e w => W Try.prog 9 V16 c16_1 Q e w) o16_0.toList [] e e w) := by rw [(by kernel_rfl : c16 = .seq (.region 0 o16_0 false) c16_1), W_seq_reg]
theorem call16 {a0 : Value} {w : World} {R : Value → World → Prop} (h : W Try.prog 9 V16 c16 (retQ Try.prog [.tmp 2] R) (argE [a0]) w) : CallsN Try.prog 16 [a0] w R :=
  callsN_of_W (c := c16) (rs := [.tmp 2]) V16 Try.ntmps16 (by rw [Try.results16]) mixed Try.func16 (by kernel_rfl) (by kernel_rfl) (by kernel_rfl) (by kernel_rfl) (by simp) h
noncomputable def hk16 := And.intro (@o16_0_eq) <| And.intro (@o16_1_eq) <| And.intro (@c16_1_s) <| @c16_s
-- K16: ↓hk16
/-! ### vouch/vouchlaw05.done -/
def V17 : Nat → Bool := fun i => [0, 1, 4, 5, 6, 7, 8, 9, 13, 26, 28, 45].elem i
noncomputable def c17 : Code := (Try.f17.body.getD .skip)
noncomputable def o17_0 : Array Oper := rO (cL c17)
noncomputable def c17_1 : Code := (cR c17)
noncomputable def o17_1 : Array Oper := rO (cL c17_1)
noncomputable def c17_2 : Code := (cR c17_1)
noncomputable def c17_3 : Code := (cR c17_2)
noncomputable def o17_12 : Array Oper := rO (cL c17_3)
noncomputable def c17_4 : Code := (cL c17_2)
noncomputable def o17_2 : Array Oper := rO (cL c17_4)
noncomputable def c17_5 : Code := (cR c17_4)
noncomputable def c17_6 : Code := (cL c17_5)
noncomputable def c17_7 : Code := (cL c17_6)
noncomputable def c17_8 : Code := (cR c17_7)
noncomputable def c17_9 : Code := (cR c17_8)
noncomputable def o17_4 : Array Oper := rO c17_9
noncomputable def c17_10 : Code := (cL c17_8)
noncomputable def c17_11 : Code := (cL c17_10)
noncomputable def o17_5 : Array Oper := rO (cL c17_11)
noncomputable def c17_12 : Code := (cR c17_11)
noncomputable def c17_13 : Code := (cR c17_12)
noncomputable def o17_9 : Array Oper := rO (cL c17_13)
noncomputable def c17_14 : Code := (cR c17_13)
noncomputable def o17_10 : Array Oper := rO (cL c17_14)
noncomputable def c17_15 : Code := (cR c17_14)
noncomputable def c17_16 : Code := (cL c17_15)
noncomputable def o17_11 : Array Oper := rO (cL c17_16)
noncomputable def c17_17 : Code := (cL c17_12)
noncomputable def o17_6 : Array Oper := rO (cL c17_17)
noncomputable def c17_18 : Code := (cR c17_17)
noncomputable def c17_19 : Code := (cL c17_18)
noncomputable def c17_20 : Code := (cL c17_19)
noncomputable def o17_7 : Array Oper := rO (cL c17_20)
noncomputable def c17_21 : Code := (cR c17_20)
noncomputable def c17_22 : Code := (cL c17_21)
noncomputable def o17_8 : Array Oper := rO (cL c17_22)
noncomputable def c17_23 : Code := (cL c17_7)
noncomputable def o17_3 : Array Oper := rO (cL c17_23)
noncomputable def c17_24 : Code := (cR c17_23)
theorem o17_0_eq : opsW N M G 47 V17 o17_0 k o17_0.toList [] e e w =
    (M (Value.slice none 0 0) fun t4 =>
    M (Value.bool false) fun t5 =>
    k (Env.p (Env.p e 4 t4) 5 t5) w) := nr (by kernel_rfl)
theorem o17_1_eq : opsW N M G 47 V17 o17_1 k o17_1.toList [] e e w =
    (M (Value.slice none 0 0) fun t6 =>
    k (Env.p e 6 t6) w) := nr (by kernel_rfl)
theorem o17_12_eq : opsW N M G 47 V17 o17_12 k o17_12.toList [] e e w =
    (M (e 6) fun t46 =>
    M t46 fun t4 =>
    M (Value.bool true) fun t5 =>
    k (Env.p (Env.p e 4 t4) 5 t5) w) := nr (by kernel_rfl)
theorem c17_3_s (hw : Cur w) : W Try.prog 47 V17 c17_3 Q e w = (opsW (nx Try.prog) mv gdP 47 V17 o17_12 (fun e w => Q .ret e w) o17_12.toList [] e e w) := by rw [(by kernel_rfl : c17_3 = .seq (.region 12 o17_12 false) Code.ret), W_seq_reg]; simp only [W_ret, W_skip, W_exit, W_label]
theorem o17_2_eq : opsW N M G 47 V17 o17_2 k o17_2.toList [] e e w =
    (M (Value.int IntKind.i64 0) fun t7 =>
    k (Env.p e 7 t7) w) := nr (by kernel_rfl)
theorem o17_4_eq : opsW N M G 47 V17 o17_4 k o17_4.toList [] e e w =
    (M (e 7) fun t14 =>
    N (xv (xbin BinOp.add 3 (Operand.tmp 14) (Operand.const (Value.int IntKind.i64 1)) t14 (Value.int IntKind.i64 1))) w fun t15 w =>
    M t15 fun t7 =>
    k (Env.p e 7 t7) w) := nr (by kernel_rfl)
theorem c17_9_s (hw : Cur w) : W Try.prog 47 V17 c17_9 Q e w = (opsW (nx Try.prog) mv gdP 47 V17 o17_4 (fun e w => Q .normal e w) o17_4.toList [] e e w) := by rw [(by kernel_rfl : c17_9 = (.region 4 o17_4 false)), W_reg]
theorem o17_5_eq : opsW N M G 47 V17 o17_5 k o17_5.toList [] e e w =
    (M (e 0) fun t17 =>
    M (e 1) fun t18 =>
    M (e 7) fun t19 =>
    N (xv (Instr.indexAt 22 t18 t19)) w fun t20 w =>
    N (xv (Instr.loadAt 40 t20)) w fun t21 w =>
    N (xcall (Value.func (Fn.func 21) #[] #[]) [t17, t21]) w fun t22 w =>
    M t22 fun t16 =>
    N (xv (Instr.extract t16 0)) w fun t23 w =>
    N (xv (Instr.extract t16 1)) w fun t24 w =>
    M t23 fun t8 =>
    M t24 fun t9 =>
    k (Env.p (Env.p e 8 t8) 9 t9) w) := nr (by kernel_rfl)
theorem o17_9_eq : opsW N M G 47 V17 o17_9 k o17_9.toList [] e e w =
    (M (e 6) fun t29 =>
    M (e 1) fun t30 =>
    M (e 7) fun t31 =>
    N (xv (Instr.indexAt 22 t30 t31)) w fun t32 w =>
    N (xv (Instr.loadAt 40 t32)) w fun t33 w =>
    N (xv (Instr.buildSlice 22 1 ([(0, t33)]).toArray)) w fun t34 w =>
    N (builtin Builtin.append #[22, 22] 22 ([false, false]).toArray ([t29, t34]).toArray) w fun t35 w =>
    M t35 fun t6 =>
    k (Env.p e 6 t6) w) := nr (by kernel_rfl)
theorem o17_10_eq : opsW N M G 47 V17 o17_10 k o17_10.toList [] e e w =
    (M (e 8) fun t36 =>
    M (e 6) fun t37 =>
    N (builtin Builtin.len #[22] 3 ([false]).toArray ([t37]).toArray) w fun t38 w =>
    N (xv (xbin BinOp.neq 2 (Operand.tmp 36) (Operand.tmp 38) t36 t38)) w fun t39 w =>
    M t39 fun t40 =>
    G (isB t40 false) (fun K => M (e 0) fun v => K v w) (fun t41 w =>
    G (isB t40 false) (fun K => N (xcall (Value.func (Fn.func 22) #[] #[]) [t41]) w K) (fun t42 w =>
    G (isB t40 false) (fun K => M (e 8) fun v => K v w) (fun t43 w =>
    G (isB t40 false) (fun K => N (xv (xbin BinOp.neq 2 (Operand.tmp 42) (Operand.tmp 43) t42 t43)) w K) (fun t44 w =>
    N (xpick t40 (Value.bool true) t44) w fun t45 w =>
    k (Env.p e 45 t45) w) w) w) w) w) := nr (by kernel_rfl)
theorem o17_11_eq : opsW N M G 47 V17 o17_11 k o17_11.toList [] e e w =
    (M (Value.slice none 0 0) fun t4 =>
    M (Value.bool false) fun t5 =>
    k (Env.p (Env.p e 4 t4) 5 t5) w) := nr (by kernel_rfl)
theorem c17_16_s (hw : Cur w) : W Try.prog 47 V17 c17_16 Q e w = (opsW (nx Try.prog) mv gdP 47 V17 o17_11 (fun e w => Q .ret e w) o17_11.toList [] e e w) := by rw [(by kernel_rfl : c17_16 = .seq (.region 11 o17_11 false) Code.ret), W_seq_reg]; simp only [W_ret, W_skip, W_exit, W_label]
theorem c17_15_v : opV V17 (.tmp 45) = true := by kernel_rfl
theorem c17_15_s (hw : Cur w) : W Try.prog 47 V17 c17_15 Q e w = (condP (ev e (.tmp 45)) (W Try.prog 47 V17 c17_16 Q e w) (Q .normal e w)) := by rw [(by kernel_rfl : c17_15 = .cond (.tmp 45) c17_16 Code.skip), W_cond, c17_15_v, cond_true]; simp only [W_ret, W_skip, W_exit, W_label]
theorem c17_14_s (hw : Cur w) : W Try.prog 47 V17 c17_14 Q e w = (opsW (nx Try.prog) mv gdP 47 V17 o17_10 (fun e w => W Try.prog 47 V17 c17_15 Q e w) o17_10.toList [] e e w) := by rw [(by kernel_rfl : c17_14 = .seq (.region 10 o17_10 false) c17_15), W_seq_reg]
theorem c17_13_s (hw : Cur w) : W Try.prog 47 V17 c17_13 Q e w = (opsW (nx Try.prog) mv gdP 47 V17 o17_9 (fun e w => W Try.prog 47 V17 c17_14 Q e w) o17_9.toList [] e e w) := by rw [(by kernel_rfl : c17_13 = .seq (.region 9 o17_9 false) c17_14), W_seq_reg]
theorem o17_6_eq : opsW N M G 47 V17 o17_6 k o17_6.toList [] e e w =
    (M (e 9) fun t25 =>
    N (xv (xbin BinOp.neq 32 (Operand.tmp 25) (Operand.const (Value.int IntKind.i64 0)) t25 (Value.int IntKind.i64 0))) w fun t26 w =>
    k (Env.p e 26 t26) w) := nr (by kernel_rfl)
theorem o17_7_eq : opsW N M G 47 V17 o17_7 k o17_7.toList [] e e w =
    (M (e 8) fun t27 =>
    N (xv (xbin BinOp.neq 2 (Operand.tmp 27) (Operand.const (Value.int IntKind.i64 0)) t27 (Value.int IntKind.i64 0))) w fun t28 w =>
    k (Env.p e 28 t28) w) := nr (by kernel_rfl)
theorem o17_8_eq : opsW N M G 47 V17 o17_8 k o17_8.toList [] e e w =
    (M (Value.slice none 0 0) fun t4 =>
    M (Value.bool false) fun t5 =>
    k (Env.p (Env.p e 4 t4) 5 t5) w) := nr (by kernel_rfl)
theorem c17_22_s (hw : Cur w) : W Try.prog 47 V17 c17_22 Q e w = (opsW (nx Try.prog) mv gdP 47 V17 o17_8 (fun e w => Q .ret e w) o17_8.toList [] e e w) := by rw [(by kernel_rfl : c17_22 = .seq (.region 8 o17_8 false) Code.ret), W_seq_reg]; simp only [W_ret, W_skip, W_exit, W_label]
theorem c17_21_v : opV V17 (.tmp 28) = true := by kernel_rfl
theorem c17_21_s (hw : Cur w) : W Try.prog 47 V17 c17_21 Q e w = (condP (ev e (.tmp 28)) (W Try.prog 47 V17 c17_22 Q e w) (Q .normal e w)) := by rw [(by kernel_rfl : c17_21 = .cond (.tmp 28) c17_22 Code.skip), W_cond, c17_21_v, cond_true]; simp only [W_ret, W_skip, W_exit, W_label]
theorem c17_20_s (hw : Cur w) : W Try.prog 47 V17 c17_20 Q e w = (opsW (nx Try.prog) mv gdP 47 V17 o17_7 (fun e w => W Try.prog 47 V17 c17_21 Q e w) o17_7.toList [] e e w) := by rw [(by kernel_rfl : c17_20 = .seq (.region 7 o17_7 false) c17_21), W_seq_reg]
theorem c17_19_s (hw : Cur w) : W Try.prog 47 V17 c17_19 Q e w = (W Try.prog 47 V17 c17_20 (seqQ (fun e w => Q (.exit 1) e w) Q) e w) := by rw [(by kernel_rfl : c17_19 = .seq c17_20 (Code.exit 1)), W_seq]; simp only [W_ret, W_skip, W_exit, W_label]
theorem c17_18_v : opV V17 (.tmp 26) = true := by kernel_rfl
theorem c17_18_s (hw : Cur w) : W Try.prog 47 V17 c17_18 Q e w = (condP (ev e (.tmp 26)) (W Try.prog 47 V17 c17_19 Q e w) (Q .normal e w)) := by rw [(by kernel_rfl : c17_18 = .cond (.tmp 26) c17_19 Code.skip), W_cond, c17_18_v, cond_true]; simp only [W_ret, W_skip, W_exit, W_label]
theorem c17_17_s (hw : Cur w) : W Try.prog 47 V17 c17_17 Q e w = (opsW (nx Try.prog) mv gdP 47 V17 o17_6 (fun e w => W Try.prog 47 V17 c17_18 Q e w) o17_6.toList [] e e w) := by rw [(by kernel_rfl : c17_17 = .seq (.region 6 o17_6 false) c17_18), W_seq_reg]
theorem c17_12_s (hw : Cur w) : W Try.prog 47 V17 c17_12 Q e w = (W Try.prog 47 V17 c17_17 (seqQ (fun e w => W Try.prog 47 V17 c17_13 Q e w) Q) e w) := by rw [(by kernel_rfl : c17_12 = .seq c17_17 c17_13), W_seq]
theorem c17_11_s (hw : Cur w) : W Try.prog 47 V17 c17_11 Q e w = (opsW (nx Try.prog) mv gdP 47 V17 o17_5 (fun e w => W Try.prog 47 V17 c17_12 Q e w) o17_5.toList [] e e w) := by rw [(by kernel_rfl : c17_11 = .seq (.region 5 o17_5 false) c17_12), W_seq_reg]
theorem c17_10_s (hw : Cur w) : W Try.prog 47 V17 c17_10 Q e w = (W Try.prog 47 V17 c17_11 (blockQ 1 Q) e w) := by rw [(by kernel_rfl : c17_10 = .block 1 c17_11), W_block]
theorem c17_8_s (hw : Cur w) : W Try.prog 47 V17 c17_8 Q e w = (W Try.prog 47 V17 c17_10 (seqQ (fun e w => W Try.prog 47 V17 c17_9 Q e w) Q) e w) := by rw [(by kernel_rfl : c17_8 = .seq c17_10 c17_9), W_seq]
theorem o17_3_eq : opsW N M G 47 V17 o17_3 k o17_3.toList [] e e w =
    (M (e 7) fun t10 =>
    M (e 1) fun t11 =>
    N (builtin Builtin.len #[22] 3 ([false]).toArray ([t11]).toArray) w fun t12 w =>
    N (xv (xbin BinOp.lss 3 (Operand.tmp 10) (Operand.tmp 12) t10 t12)) w fun t13 w =>
    k (Env.p e 13 t13) w) := nr (by kernel_rfl)
theorem c17_24_v : opV V17 (.tmp 13) = true := by kernel_rfl
theorem c17_24_s (hw : Cur w) : W Try.prog 47 V17 c17_24 Q e w = (condP (ev e (.tmp 13)) (Q .normal e w) (Q (.exit 0) e w)) := by rw [(by kernel_rfl : c17_24 = .cond (.tmp 13) Code.skip (Code.exit 0)), W_cond, c17_24_v, cond_true]; simp only [W_ret, W_skip, W_exit, W_label]
theorem c17_23_s (hw : Cur w) : W Try.prog 47 V17 c17_23 Q e w = (opsW (nx Try.prog) mv gdP 47 V17 o17_3 (fun e w => W Try.prog 47 V17 c17_24 Q e w) o17_3.toList [] e e w) := by rw [(by kernel_rfl : c17_23 = .seq (.region 3 o17_3 false) c17_24), W_seq_reg]
theorem c17_7_s (hw : Cur w) : W Try.prog 47 V17 c17_7 Q e w = (W Try.prog 47 V17 c17_23 (seqQ (fun e w => W Try.prog 47 V17 c17_8 Q e w) Q) e w) := by rw [(by kernel_rfl : c17_7 = .seq c17_23 c17_8), W_seq]
theorem c17_6_s (hw : Cur w) : W Try.prog 47 V17 c17_6 Q e w = (LoopP (fun e w k => W Try.prog 47 V17 c17_7 (seqQ k Q) e w) e w) := by rw [(by kernel_rfl : c17_6 = .loop c17_7), W_loop]
theorem c17_5_s (hw : Cur w) : W Try.prog 47 V17 c17_5 Q e w = (W Try.prog 47 V17 c17_6 (blockQ 0 Q) e w) := by rw [(by kernel_rfl : c17_5 = .block 0 c17_6), W_block]
theorem c17_4_s (hw : Cur w) : W Try.prog 47 V17 c17_4 Q e w = (opsW (nx Try.prog) mv gdP 47 V17 o17_2 (fun e w => W Try.prog 47 V17 c17_5 Q e w) o17_2.toList [] e e w) := by rw [(by kernel_rfl : c17_4 = .seq (.region 2 o17_2 false) c17_5), W_seq_reg]
theorem c17_2_s (hw : Cur w) : W Try.prog 47 V17 c17_2 Q e w = (W Try.prog 47 V17 c17_4 (seqQ (fun e w => W Try.prog 47 V17 c17_3 Q e w) Q) e w) := by rw [(by kernel_rfl : c17_2 = .seq c17_4 c17_3), W_seq]
theorem c17_1_s (hw : Cur w) : W Try.prog 47 V17 c17_1 Q e w = (opsW (nx Try.prog) mv gdP 47 V17 o17_1 (fun e w => W Try.prog 47 V17 c17_2 Q e w) o17_1.toList [] e e w) := by rw [(by kernel_rfl : c17_1 = .seq (.region 1 o17_1 false) c17_2), W_seq_reg]
theorem c17_s (hw : Cur w) : W Try.prog 47 V17 c17 Q e w = (opsW (nx Try.prog) mv gdP 47 V17 o17_0 (fun e w => W Try.prog 47 V17 c17_1 Q e w) o17_0.toList [] e e w) := by rw [(by kernel_rfl : c17 = .seq (.region 0 o17_0 false) c17_1), W_seq_reg]
theorem call17 {a0 a1 : Value} {w : World} {R : Value → World → Prop} (h : W Try.prog 47 V17 c17 (retQ Try.prog [.tmp 4, .tmp 5] R) (argE [a0, a1]) w) : CallsN Try.prog 17 [a0, a1] w R :=
  callsN_of_W (c := c17) (rs := [.tmp 4, .tmp 5]) V17 Try.ntmps17 (by rw [Try.results17]) mixed Try.func17 (by kernel_rfl) (by kernel_rfl) (by kernel_rfl) (by kernel_rfl) (by simp) h
noncomputable def hk17 := And.intro (@o17_0_eq) <| And.intro (@o17_1_eq) <| And.intro (@o17_12_eq) <| And.intro (@c17_3_s) <| And.intro (@o17_2_eq) <| And.intro (@o17_4_eq) <| And.intro (@c17_9_s) <| And.intro (@o17_5_eq) <| And.intro (@o17_9_eq) <| And.intro (@o17_10_eq) <| And.intro (@o17_11_eq) <| And.intro (@c17_16_s) <| And.intro (@c17_15_s) <| And.intro (@c17_14_s) <| And.intro (@c17_13_s) <| And.intro (@o17_6_eq) <| And.intro (@o17_7_eq) <| And.intro (@o17_8_eq) <| And.intro (@c17_22_s) <| And.intro (@c17_21_s) <| And.intro (@c17_20_s) <| And.intro (@c17_19_s) <| And.intro (@c17_18_s) <| And.intro (@c17_17_s) <| And.intro (@c17_12_s) <| And.intro (@c17_11_s) <| And.intro (@c17_10_s) <| And.intro (@c17_8_s) <| And.intro (@o17_3_eq) <| And.intro (@c17_24_s) <| And.intro (@c17_23_s) <| And.intro (@c17_7_s) <| And.intro (@c17_6_s) <| And.intro (@c17_5_s) <| And.intro (@c17_4_s) <| And.intro (@c17_2_s) <| And.intro (@c17_1_s) <| @c17_s
-- K17: ↓hk17
/-! ### (*vouch/store.Store) . Read -/
def V18 : Nat → Bool := fun i => [0, 1, 2, 5, 6, 7, 8, 9, 10, 11, 15, 24, 32, 55, 63].elem i
noncomputable def c18 : Code := (Try.f18.body.getD .skip)
noncomputable def o18_0 : Array Oper := rO (cL c18)
noncomputable def c18_1 : Code := (cR c18)
noncomputable def c18_2 : Code := (cR c18_1)
noncomputable def o18_9 : Array Oper := rO (cL c18_2)
noncomputable def c18_3 : Code := (cR c18_2)
noncomputable def o18_10 : Array Oper := rO (cL c18_3)
noncomputable def c18_4 : Code := (cR c18_3)
noncomputable def o18_11 : Array Oper := rO (cL c18_4)
noncomputable def c18_5 : Code := (cR c18_4)
noncomputable def c18_6 : Code := (cR c18_5)
noncomputable def c18_7 : Code := (cR c18_6)
noncomputable def o18_16 : Array Oper := rO (cL c18_7)
noncomputable def c18_8 : Code := (cL c18_6)
noncomputable def o18_14 : Array Oper := rO (cL c18_8)
noncomputable def c18_9 : Code := (cR c18_8)
noncomputable def c18_10 : Code := (cL c18_9)
noncomputable def o18_15 : Array Oper := rO c18_10
noncomputable def c18_11 : Code := (cL c18_5)
noncomputable def o18_12 : Array Oper := rO (cL c18_11)
noncomputable def c18_12 : Code := (cR c18_11)
noncomputable def c18_13 : Code := (cL c18_12)
noncomputable def o18_13 : Array Oper := rO c18_13
noncomputable def c18_14 : Code := (cL c18_1)
noncomputable def c18_15 : Code := (cL c18_14)
noncomputable def o18_1 : Array Oper := rO (cL c18_15)
noncomputable def c18_16 : Code := (cR c18_15)
noncomputable def c18_17 : Code := (cL c18_16)
noncomputable def o18_2 : Array Oper := rO (cL c18_17)
noncomputable def c18_18 : Code := (cR c18_16)
noncomputable def o18_3 : Array Oper := rO (cL c18_18)
noncomputable def c18_19 : Code := (cR c18_18)
noncomputable def c18_20 : Code := (cL c18_19)
noncomputable def o18_4 : Array Oper := rO (cL c18_20)
noncomputable def c18_21 : Code := (cR c18_19)
noncomputable def o18_5 : Array Oper := rO (cL c18_21)
noncomputable def c18_22 : Code := (cR c18_21)
noncomputable def c18_23 : Code := (cL c18_22)
noncomputable def o18_6 : Array Oper := rO (cL c18_23)
noncomputable def c18_24 : Code := (cR c18_22)
noncomputable def o18_7 : Array Oper := rO (cL c18_24)
noncomputable def c18_25 : Code := (cR c18_24)
noncomputable def c18_26 : Code := (cL c18_25)
noncomputable def o18_8 : Array Oper := rO (cL c18_26)
theorem o18_0_eq : opsW N M G 79 V18 o18_0 k o18_0.toList [] e e w =
    (N (xv (Instr.box 2 (e 2))) w fun t5 w =>
    N (xv (Instr.alloc 31 true (.tuple #[]))) w fun t6 w =>
    M (Value.int IntKind.i64 0) fun t7 =>
    k (Env.p (Env.p (Env.p e 5 t5) 6 t6) 7 t7) w) := nr (by kernel_rfl)
theorem o18_9_eq : opsW N M G 79 V18 o18_9 k o18_9.toList [] e e w =
    (M (e 0) fun t39 =>
    N (xnil t39) w fun t40 w =>
    N (xv (Instr.fieldAt 111 t40 0)) w fun t41 w =>
    N (xv (Instr.loadAt 109 t41)) w fun t42 w =>
    M (e 1) fun t43 =>
    N (xv (Instr.lookup 109 t42 t43 false)) w fun t44 w =>
    N (xv (Instr.field 114 t44 0)) w fun t45 w =>
    N (xv (Instr.alloc 46 true (.tuple #[]))) w fun t8 w =>
    N (xu (Instr.storeAt 46 t8 t45)) w fun _ w =>
    k (Env.p e 8 t8) w) := nr (by kernel_rfl)
theorem o18_10_eq : opsW N M G 79 V18 o18_10 k o18_10.toList [] e e w =
    (N (xv (Instr.loadAt 46 (e 8))) w fun t46 w =>
    N (builtin Builtin.len #[46] 3 ([false]).toArray ([t46]).toArray) w fun t47 w =>
    N (xv (Instr.makeFunc (Fn.func 55) ([]).toArray ([(e 8), (e 5)]).toArray)) w fun t48 w =>
    N (xcall (Value.func (Fn.func 54) #[] #[]) [t47, t48]) w fun t49 w =>
    M t49 fun t9 =>
    k (Env.p e 9 t9) w) := nr (by kernel_rfl)
theorem o18_11_eq : opsW N M G 79 V18 o18_11 k o18_11.toList [] e e w =
    (M (e 1) fun t50 =>
    N (xv (Instr.build 31 ([(0, t50), (3, (Value.int IntKind.i64 4611686018427387904))]).toArray)) w fun t51 w =>
    N (xv (Instr.alloc 31 true (.tuple #[]))) w fun t10 w =>
    N (xu (Instr.storeAt 31 t10 t51)) w fun _ w =>
    k (Env.p e 10 t10) w) := nr (by kernel_rfl)
theorem o18_16_eq : opsW N M G 79 V18 o18_16 k o18_16.toList [] e e w =
    (N (xv (Instr.loadAt 31 (e 10))) w fun t78 w =>
    N (xu (Instr.storeAt 31 (e 6) t78)) w fun _ w =>
    M (Value.int IntKind.i64 0) fun t7 =>
    k (Env.p e 7 t7) w) := nr (by kernel_rfl)
theorem c18_7_s (hw : Cur w) : W Try.prog 79 V18 c18_7 Q e w = (opsW (nx Try.prog) mv gdP 79 V18 o18_16 (fun e w => Q .ret e w) o18_16.toList [] e e w) := by rw [(by kernel_rfl : c18_7 = .seq (.region 16 o18_16 false) Code.ret), W_seq_reg]; simp only [W_ret, W_skip, W_exit, W_label]
theorem o18_14_eq : opsW N M G 79 V18 o18_14 k o18_14.toList [] e e w =
    (M (e 9) fun t62 =>
    N (xv (xbin BinOp.gtr 3 (Operand.tmp 62) (Operand.const (Value.int IntKind.i64 0)) t62 (Value.int IntKind.i64 0))) w fun t63 w =>
    k (Env.p e 63 t63) w) := nr (by kernel_rfl)
theorem o18_15_eq : drawGo N T M G H 79 V18 o18_15 S k o18_15.size true (Array.replicate o18_15.size false) [] e e w =
    (T (xv (Instr.loadAt 46 (e 8))) fun t64 =>
    M (e 9) fun t65 =>
    T (xv (xbin BinOp.sub 3 (Operand.tmp 65) (Operand.const (Value.int IntKind.i64 1)) t65 (Value.int IntKind.i64 1))) fun t66 =>
    T (xv (Instr.indexAt 46 t64 t66)) fun t67 =>
    T (xv (Instr.fieldAt 106 t67 0)) fun t68 =>
    T (xv (Instr.loadAt 2 t68)) fun t69 =>
    T (xv (Instr.loadAt 46 (e 8))) fun t70 =>
    M (e 9) fun t71 =>
    T (xv (xbin BinOp.sub 3 (Operand.tmp 71) (Operand.const (Value.int IntKind.i64 1)) t71 (Value.int IntKind.i64 1))) fun t72 =>
    T (xv (Instr.indexAt 46 t70 t72)) fun t73 =>
    T (xv (Instr.fieldAt 106 t73 1)) fun t74 =>
    T (xv (Instr.loadAt 29 t74)) fun t75 =>
    T (xv (Instr.fieldAt 31 (e 10) 2)) fun t76 =>
    N (xu (Instr.storeAt 2 t76 t69)) w fun _ w =>
    S w ∧ (T (xv (Instr.fieldAt 31 (e 10) 1)) fun t77 =>
    N (xu (Instr.storeAt 29 t77 t75)) w fun _ w =>
    k e w)) := nr (by kernel_rfl)
theorem c18_10_s (hw : Cur w) : W Try.prog 79 V18 c18_10 Q e w = (∃ S : World → Prop, S w.drew ∧ drawGo (nx Try.prog) (takeP Try.prog S) mv gdP gdT 79 V18 o18_15 S (fun e w => Q .normal e w) o18_15.size true (Array.replicate o18_15.size false) [] e e w.drew) := by rw [(by kernel_rfl : c18_10 = (.region 15 o18_15 true)), W_regD']
theorem c18_9_v : opV V18 (.tmp 63) = true := by kernel_rfl
theorem c18_9_s (hw : Cur w) : W Try.prog 79 V18 c18_9 Q e w = (condP (ev e (.tmp 63)) (W Try.prog 79 V18 c18_10 Q e w) (Q .normal e w)) := by rw [(by kernel_rfl : c18_9 = .cond (.tmp 63) c18_10 Code.skip), W_cond, c18_9_v, cond_true]; simp only [W_ret, W_skip, W_exit, W_label]
theorem c18_8_s (hw : Cur w) : W Try.prog 79 V18 c18_8 Q e w = (opsW (nx Try.prog) mv gdP 79 V18 o18_14 (fun e w => W Try.prog 79 V18 c18_9 Q e w) o18_14.toList [] e e w) := by rw [(by kernel_rfl : c18_8 = .seq (.region 14 o18_14 false) c18_9), W_seq_reg]
theorem c18_6_s (hw : Cur w) : W Try.prog 79 V18 c18_6 Q e w = (W Try.prog 79 V18 c18_8 (seqQ (fun e w => W Try.prog 79 V18 c18_7 Q e w) Q) e w) := by rw [(by kernel_rfl : c18_6 = .seq c18_8 c18_7), W_seq]
theorem o18_12_eq : opsW N M G 79 V18 o18_12 k o18_12.toList [] e e w =
    (M (e 9) fun t52 =>
    N (xv (Instr.loadAt 46 (e 8))) w fun t53 w =>
    N (builtin Builtin.len #[46] 3 ([false]).toArray ([t53]).toArray) w fun t54 w =>
    N (xv (xbin BinOp.lss 3 (Operand.tmp 52) (Operand.tmp 54) t52 t54)) w fun t55 w =>
    k (Env.p e 55 t55) w) := nr (by kernel_rfl)
theorem o18_13_eq : opsW N M G 79 V18 o18_13 k o18_13.toList [] e e w =
    (N (xv (Instr.loadAt 46 (e 8))) w fun t56 w =>
    M (e 9) fun t57 =>
    N (xv (Instr.indexAt 46 t56 t57)) w fun t58 w =>
    N (xv (Instr.fieldAt 106 t58 0)) w fun t59 w =>
    N (xv (Instr.loadAt 2 t59)) w fun t60 w =>
    N (xv (Instr.fieldAt 31 (e 10) 3)) w fun t61 w =>
    N (xu (Instr.storeAt 2 t61 t60)) w fun _ w =>
    k e w) := nr (by kernel_rfl)
theorem c18_13_s (hw : Cur w) : W Try.prog 79 V18 c18_13 Q e w = (opsW (nx Try.prog) mv gdP 79 V18 o18_13 (fun e w => Q .normal e w) o18_13.toList [] e e w) := by rw [(by kernel_rfl : c18_13 = (.region 13 o18_13 false)), W_reg]
theorem c18_12_v : opV V18 (.tmp 55) = true := by kernel_rfl
theorem c18_12_s (hw : Cur w) : W Try.prog 79 V18 c18_12 Q e w = (condP (ev e (.tmp 55)) (W Try.prog 79 V18 c18_13 Q e w) (Q .normal e w)) := by rw [(by kernel_rfl : c18_12 = .cond (.tmp 55) c18_13 Code.skip), W_cond, c18_12_v, cond_true]; simp only [W_ret, W_skip, W_exit, W_label]
theorem c18_11_s (hw : Cur w) : W Try.prog 79 V18 c18_11 Q e w = (opsW (nx Try.prog) mv gdP 79 V18 o18_12 (fun e w => W Try.prog 79 V18 c18_12 Q e w) o18_12.toList [] e e w) := by rw [(by kernel_rfl : c18_11 = .seq (.region 12 o18_12 false) c18_12), W_seq_reg]
theorem c18_5_s (hw : Cur w) : W Try.prog 79 V18 c18_5 Q e w = (W Try.prog 79 V18 c18_11 (seqQ (fun e w => W Try.prog 79 V18 c18_6 Q e w) Q) e w) := by rw [(by kernel_rfl : c18_5 = .seq c18_11 c18_6), W_seq]
theorem c18_4_s (hw : Cur w) : W Try.prog 79 V18 c18_4 Q e w = (opsW (nx Try.prog) mv gdP 79 V18 o18_11 (fun e w => W Try.prog 79 V18 c18_5 Q e w) o18_11.toList [] e e w) := by rw [(by kernel_rfl : c18_4 = .seq (.region 11 o18_11 false) c18_5), W_seq_reg]
theorem c18_3_s (hw : Cur w) : W Try.prog 79 V18 c18_3 Q e w = (opsW (nx Try.prog) mv gdP 79 V18 o18_10 (fun e w => W Try.prog 79 V18 c18_4 Q e w) o18_10.toList [] e e w) := by rw [(by kernel_rfl : c18_3 = .seq (.region 10 o18_10 false) c18_4), W_seq_reg]
theorem c18_2_s (hw : Cur w) : W Try.prog 79 V18 c18_2 Q e w = (opsW (nx Try.prog) mv gdP 79 V18 o18_9 (fun e w => W Try.prog 79 V18 c18_3 Q e w) o18_9.toList [] e e w) := by rw [(by kernel_rfl : c18_2 = .seq (.region 9 o18_9 false) c18_3), W_seq_reg]
theorem o18_1_eq : opsW N M G 79 V18 o18_1 k o18_1.toList [] e e w =
    (M (e 0) fun t12 =>
    N (xv (xbin BinOp.eql 24 (Operand.tmp 12) (Operand.const (Value.pointer none)) t12 (Value.pointer none))) w fun t13 w =>
    M t13 fun t11 =>
    k (Env.p e 11 t11) w) := nr (by kernel_rfl)
theorem o18_2_eq : opsW N M G 79 V18 o18_2 k o18_2.toList [] e e w =
    (N (xv (Instr.build 31 ([]).toArray)) w fun t14 w =>
    N (xu (Instr.storeAt 31 (e 6) t14)) w fun _ w =>
    M (Value.int IntKind.i64 3) fun t7 =>
    k (Env.p e 7 t7) w) := nr (by kernel_rfl)
theorem c18_17_s (hw : Cur w) : W Try.prog 79 V18 c18_17 Q e w = (opsW (nx Try.prog) mv gdP 79 V18 o18_2 (fun e w => Q .ret e w) o18_2.toList [] e e w) := by rw [(by kernel_rfl : c18_17 = .seq (.region 2 o18_2 false) Code.ret), W_seq_reg]; simp only [W_ret, W_skip, W_exit, W_label]
theorem o18_3_eq : opsW N M G 79 V18 o18_3 k o18_3.toList [] e e w =
    (M (e 1) fun t16 =>
    N (xcall (Value.func (Fn.func 53) #[] #[]) [t16]) w fun t17 w =>
    N (xv (Op.unary UnOp.not t17)) w fun t18 w =>
    M t18 fun t19 =>
    G (isB t19 false) (fun K => N (xv (Instr.loadAt 2 (e 5))) w K) (fun t20 w =>
    G (isB t19 false) (fun K => N (xv (xbin BinOp.lss 2 (Operand.tmp 20) (Operand.const (Value.int IntKind.i64 0)) t20 (Value.int IntKind.i64 0))) w K) (fun t21 w =>
    N (xpick t19 (Value.bool true) t21) w fun t22 w =>
    M t22 fun t15 =>
    k (Env.p e 15 t15) w) w) w) := nr (by kernel_rfl)
theorem o18_4_eq : opsW N M G 79 V18 o18_4 k o18_4.toList [] e e w =
    (N (xv (Instr.build 31 ([]).toArray)) w fun t23 w =>
    N (xu (Instr.storeAt 31 (e 6) t23)) w fun _ w =>
    M (Value.int IntKind.i64 1) fun t7 =>
    k (Env.p e 7 t7) w) := nr (by kernel_rfl)
theorem c18_20_s (hw : Cur w) : W Try.prog 79 V18 c18_20 Q e w = (opsW (nx Try.prog) mv gdP 79 V18 o18_4 (fun e w => Q .ret e w) o18_4.toList [] e e w) := by rw [(by kernel_rfl : c18_20 = .seq (.region 4 o18_4 false) Code.ret), W_seq_reg]; simp only [W_ret, W_skip, W_exit, W_label]
theorem o18_5_eq : drawGo N T M G H 79 V18 o18_5 S k o18_5.size true (Array.replicate o18_5.size false) [] e e w =
    (T (xv (Instr.loadAt 2 (e 5))) fun t25 =>
    M (e 0) fun t26 =>
    T (xnil t26) fun t27 =>
    T (xv (Instr.fieldAt 111 t27 2)) fun t28 =>
    T (xv (Instr.loadAt 2 t28)) fun t29 =>
    T (xv (xbin BinOp.gtr 2 (Operand.tmp 25) (Operand.tmp 29) t25 t29)) fun t30 =>
    M t30 fun t24 =>
    k (Env.p e 24 t24) w) := nr (by kernel_rfl)
theorem o18_6_eq : opsW N M G 79 V18 o18_6 k o18_6.toList [] e e w =
    (N (xv (Instr.build 31 ([]).toArray)) w fun t31 w =>
    N (xu (Instr.storeAt 31 (e 6) t31)) w fun _ w =>
    M (Value.int IntKind.i64 21) fun t7 =>
    k (Env.p e 7 t7) w) := nr (by kernel_rfl)
theorem c18_23_s (hw : Cur w) : W Try.prog 79 V18 c18_23 Q e w = (opsW (nx Try.prog) mv gdP 79 V18 o18_6 (fun e w => Q .ret e w) o18_6.toList [] e e w) := by rw [(by kernel_rfl : c18_23 = .seq (.region 6 o18_6 false) Code.ret), W_seq_reg]; simp only [W_ret, W_skip, W_exit, W_label]
theorem o18_7_eq : drawGo N T M G H 79 V18 o18_7 S k o18_7.size true (Array.replicate o18_7.size false) [] e e w =
    (T (xv (Instr.loadAt 2 (e 5))) fun t33 =>
    M (e 0) fun t34 =>
    M (e 1) fun t35 =>
    N (xcall (Value.func (Fn.func 19) #[] #[]) [t34, t35]) w fun t36 w =>
    S w ∧ (T (xv (xbin BinOp.lss 2 (Operand.tmp 33) (Operand.tmp 36) t33 t36)) fun t37 =>
    M t37 fun t32 =>
    k (Env.p e 32 t32) w)) := nr (by kernel_rfl)
theorem o18_8_eq : opsW N M G 79 V18 o18_8 k o18_8.toList [] e e w =
    (N (xv (Instr.build 31 ([]).toArray)) w fun t38 w =>
    N (xu (Instr.storeAt 31 (e 6) t38)) w fun _ w =>
    M (Value.int IntKind.i64 20) fun t7 =>
    k (Env.p e 7 t7) w) := nr (by kernel_rfl)
theorem c18_26_s (hw : Cur w) : W Try.prog 79 V18 c18_26 Q e w = (opsW (nx Try.prog) mv gdP 79 V18 o18_8 (fun e w => Q .ret e w) o18_8.toList [] e e w) := by rw [(by kernel_rfl : c18_26 = .seq (.region 8 o18_8 false) Code.ret), W_seq_reg]; simp only [W_ret, W_skip, W_exit, W_label]
theorem c18_25_v : opV V18 (.tmp 32) = true := by kernel_rfl
theorem c18_25_s (hw : Cur w) : W Try.prog 79 V18 c18_25 Q e w = (condP (ev e (.tmp 32)) (W Try.prog 79 V18 c18_26 Q e w) (Q .normal e w)) := by rw [(by kernel_rfl : c18_25 = .cond (.tmp 32) c18_26 Code.skip), W_cond, c18_25_v, cond_true]; simp only [W_ret, W_skip, W_exit, W_label]
theorem c18_24_s (hw : Cur w) : W Try.prog 79 V18 c18_24 Q e w = (∃ S : World → Prop, S w.drew ∧ drawGo (nx Try.prog) (takeP Try.prog S) mv gdP gdT 79 V18 o18_7 S (fun e w => W Try.prog 79 V18 c18_25 Q e w) o18_7.size true (Array.replicate o18_7.size false) [] e e w.drew) := by rw [(by kernel_rfl : c18_24 = .seq (.region 7 o18_7 true) c18_25), W_seq_regD]
theorem c18_22_v : opV V18 (.tmp 24) = true := by kernel_rfl
theorem c18_22_s (hw : Cur w) : W Try.prog 79 V18 c18_22 Q e w = (condP (ev e (.tmp 24)) (W Try.prog 79 V18 c18_23 Q e w) (W Try.prog 79 V18 c18_24 Q e w)) := by rw [(by kernel_rfl : c18_22 = .cond (.tmp 24) c18_23 c18_24), W_cond, c18_22_v, cond_true]
theorem c18_21_s (hw : Cur w) : W Try.prog 79 V18 c18_21 Q e w = (∃ S : World → Prop, S w.drew ∧ drawGo (nx Try.prog) (takeP Try.prog S) mv gdP gdT 79 V18 o18_5 S (fun e w => W Try.prog 79 V18 c18_22 Q e w) o18_5.size true (Array.replicate o18_5.size false) [] e e w.drew) := by rw [(by kernel_rfl : c18_21 = .seq (.region 5 o18_5 true) c18_22), W_seq_regD]
theorem c18_19_v : opV V18 (.tmp 15) = true := by kernel_rfl
theorem c18_19_s (hw : Cur w) : W Try.prog 79 V18 c18_19 Q e w = (condP (ev e (.tmp 15)) (W Try.prog 79 V18 c18_20 Q e w) (W Try.prog 79 V18 c18_21 Q e w)) := by rw [(by kernel_rfl : c18_19 = .cond (.tmp 15) c18_20 c18_21), W_cond, c18_19_v, cond_true]
theorem c18_18_s (hw : Cur w) : W Try.prog 79 V18 c18_18 Q e w = (opsW (nx Try.prog) mv gdP 79 V18 o18_3 (fun e w => W Try.prog 79 V18 c18_19 Q e w) o18_3.toList [] e e w) := by rw [(by kernel_rfl : c18_18 = .seq (.region 3 o18_3 false) c18_19), W_seq_reg]
theorem c18_16_v : opV V18 (.tmp 11) = true := by kernel_rfl
theorem c18_16_s (hw : Cur w) : W Try.prog 79 V18 c18_16 Q e w = (condP (ev e (.tmp 11)) (W Try.prog 79 V18 c18_17 Q e w) (W Try.prog 79 V18 c18_18 Q e w)) := by rw [(by kernel_rfl : c18_16 = .cond (.tmp 11) c18_17 c18_18), W_cond, c18_16_v, cond_true]
theorem c18_15_s (hw : Cur w) : W Try.prog 79 V18 c18_15 Q e w = (opsW (nx Try.prog) mv gdP 79 V18 o18_1 (fun e w => W Try.prog 79 V18 c18_16 Q e w) o18_1.toList [] e e w) := by rw [(by kernel_rfl : c18_15 = .seq (.region 1 o18_1 false) c18_16), W_seq_reg]
theorem c18_14_s (hw : Cur w) : W Try.prog 79 V18 c18_14 Q e w = (W Try.prog 79 V18 c18_15 (blockQ 0 Q) e w) := by rw [(by kernel_rfl : c18_14 = .block 0 c18_15), W_block]
theorem c18_1_s (hw : Cur w) : W Try.prog 79 V18 c18_1 Q e w = (W Try.prog 79 V18 c18_14 (seqQ (fun e w => W Try.prog 79 V18 c18_2 Q e w) Q) e w) := by rw [(by kernel_rfl : c18_1 = .seq c18_14 c18_2), W_seq]
theorem c18_s (hw : Cur w) : W Try.prog 79 V18 c18 Q e w = (opsW (nx Try.prog) mv gdP 79 V18 o18_0 (fun e w => W Try.prog 79 V18 c18_1 Q e w) o18_0.toList [] e e w) := by rw [(by kernel_rfl : c18 = .seq (.region 0 o18_0 false) c18_1), W_seq_reg]
theorem call18 {a0 a1 a2 : Value} {w : World} {R : Value → World → Prop} (h : W Try.prog 79 V18 c18 (retQ Try.prog [.cell 6 31, .tmp 7] R) (argE [a0, a1, a2]) w) : CallsN Try.prog 18 [a0, a1, a2] w R :=
  callsN_of_W (c := c18) (rs := [.cell 6 31, .tmp 7]) V18 Try.ntmps18 (by rw [Try.results18]) mixed Try.func18 (by kernel_rfl) (by kernel_rfl) (by kernel_rfl) (by kernel_rfl) (by simp) h
noncomputable def hk18 := And.intro (@o18_0_eq) <| And.intro (@o18_9_eq) <| And.intro (@o18_10_eq) <| And.intro (@o18_11_eq) <| And.intro (@o18_16_eq) <| And.intro (@c18_7_s) <| And.intro (@o18_14_eq) <| And.intro (@o18_15_eq) <| And.intro (@c18_10_s) <| And.intro (@c18_9_s) <| And.intro (@c18_8_s) <| And.intro (@c18_6_s) <| And.intro (@o18_12_eq) <| And.intro (@o18_13_eq) <| And.intro (@c18_13_s) <| And.intro (@c18_12_s) <| And.intro (@c18_11_s) <| And.intro (@c18_5_s) <| And.intro (@c18_4_s) <| And.intro (@c18_3_s) <| And.intro (@c18_2_s) <| And.intro (@o18_1_eq) <| And.intro (@o18_2_eq) <| And.intro (@c18_17_s) <| And.intro (@o18_3_eq) <| And.intro (@o18_4_eq) <| And.intro (@c18_20_s) <| And.intro (@o18_5_eq) <| And.intro (@o18_6_eq) <| And.intro (@c18_23_s) <| And.intro (@o18_7_eq) <| And.intro (@o18_8_eq) <| And.intro (@c18_26_s) <| And.intro (@c18_25_s) <| And.intro (@c18_24_s) <| And.intro (@c18_22_s) <| And.intro (@c18_21_s) <| And.intro (@c18_19_s) <| And.intro (@c18_18_s) <| And.intro (@c18_16_s) <| And.intro (@c18_15_s) <| And.intro (@c18_14_s) <| And.intro (@c18_1_s) <| @c18_s
-- K18: ↓hk18
/-! ### (*vouch/store.Store) . Oldest -/
def V19 : Nat → Bool := fun i => [0, 1, 4, 16].elem i
noncomputable def c19 : Code := (Try.f19.body.getD .skip)
noncomputable def o19_0 : Array Oper := rO (cL c19)
noncomputable def c19_1 : Code := (cR c19)
noncomputable def c19_2 : Code := (cR c19_1)
noncomputable def o19_3 : Array Oper := rO (cL c19_2)
noncomputable def c19_3 : Code := (cL c19_1)
noncomputable def o19_1 : Array Oper := rO (cL c19_3)
noncomputable def c19_4 : Code := (cR c19_3)
noncomputable def c19_5 : Code := (cL c19_4)
noncomputable def o19_2 : Array Oper := rO (cL c19_5)
theorem o19_0_eq : opsW N M G 27 V19 o19_0 k o19_0.toList [] e e w =
    (M (Value.int IntKind.i64 0) fun t4 =>
    k (Env.p e 4 t4) w) := nr (by kernel_rfl)
theorem o19_3_eq : opsW N M G 27 V19 o19_3 k o19_3.toList [] e e w =
    (M (e 0) fun t17 =>
    N (xnil t17) w fun t18 w =>
    N (xv (Instr.fieldAt 111 t18 0)) w fun t19 w =>
    N (xv (Instr.loadAt 109 t19)) w fun t20 w =>
    M (e 1) fun t21 =>
    N (xv (Instr.lookup 109 t20 t21 false)) w fun t22 w =>
    N (xv (Instr.field 114 t22 0)) w fun t23 w =>
    N (xv (Instr.indexAt 46 t23 (Value.int IntKind.i64 0))) w fun t24 w =>
    N (xv (Instr.fieldAt 106 t24 0)) w fun t25 w =>
    N (xv (Instr.loadAt 2 t25)) w fun t26 w =>
    M t26 fun t4 =>
    k (Env.p e 4 t4) w) := nr (by kernel_rfl)
theorem c19_2_s (hw : Cur w) : W Try.prog 27 V19 c19_2 Q e w = (opsW (nx Try.prog) mv gdP 27 V19 o19_3 (fun e w => Q .ret e w) o19_3.toList [] e e w) := by rw [(by kernel_rfl : c19_2 = .seq (.region 3 o19_3 false) Code.ret), W_seq_reg]; simp only [W_ret, W_skip, W_exit, W_label]
theorem o19_1_eq : opsW N M G 27 V19 o19_1 k o19_1.toList [] e e w =
    (M (e 0) fun t5 =>
    N (xv (xbin BinOp.eql 24 (Operand.tmp 5) (Operand.const (Value.pointer none)) t5 (Value.pointer none))) w fun t6 w =>
    M t6 fun t7 =>
    G (isB t7 false) (fun K => M (e 0) fun v => K v w) (fun t8 w =>
    G (isB t7 false) (fun K => N (xnil t8) w K) (fun t9 w =>
    G (isB t7 false) (fun K => N (xv (Instr.fieldAt 111 t9 0)) w K) (fun t10 w =>
    G (isB t7 false) (fun K => N (xv (Instr.loadAt 109 t10)) w K) (fun t11 w =>
    G (isB t7 false) (fun K => M (e 1) fun v => K v w) (fun t12 w =>
    G (isB t7 false) (fun K => N (xv (Instr.lookup 109 t11 t12 false)) w K) (fun t13 w =>
    G (isB t7 false) (fun K => N (xv (Instr.field 114 t13 1)) w K) (fun t14 w =>
    G (isB t7 false) (fun K => N (xv (Op.unary UnOp.not t14)) w K) (fun t15 w =>
    N (xpick t7 (Value.bool true) t15) w fun t16 w =>
    k (Env.p e 16 t16) w) w) w) w) w) w) w) w) w) := nr (by kernel_rfl)
theorem o19_2_eq : opsW N M G 27 V19 o19_2 k o19_2.toList [] e e w =
    (M (Value.int IntKind.i64 0) fun t4 =>
    k (Env.p e 4 t4) w) := nr (by kernel_rfl)
theorem c19_5_s (hw : Cur w) : W Try.prog 27 V19 c19_5 Q e w = (opsW (nx Try.prog) mv gdP 27 V19 o19_2 (fun e w => Q .ret e w) o19_2.toList [] e e w) := by rw [(by kernel_rfl : c19_5 = .seq (.region 2 o19_2 false) Code.ret), W_seq_reg]; simp only [W_ret, W_skip, W_exit, W_label]
theorem c19_4_v : opV V19 (.tmp 16) = true := by kernel_rfl
theorem c19_4_s (hw : Cur w) : W Try.prog 27 V19 c19_4 Q e w = (condP (ev e (.tmp 16)) (W Try.prog 27 V19 c19_5 Q e w) (Q .normal e w)) := by rw [(by kernel_rfl : c19_4 = .cond (.tmp 16) c19_5 Code.skip), W_cond, c19_4_v, cond_true]; simp only [W_ret, W_skip, W_exit, W_label]
theorem c19_3_s (hw : Cur w) : W Try.prog 27 V19 c19_3 Q e w = (opsW (nx Try.prog) mv gdP 27 V19 o19_1 (fun e w => W Try.prog 27 V19 c19_4 Q e w) o19_1.toList [] e e w) := by rw [(by kernel_rfl : c19_3 = .seq (.region 1 o19_1 false) c19_4), W_seq_reg]
theorem c19_1_s (hw : Cur w) : W Try.prog 27 V19 c19_1 Q e w = (W Try.prog 27 V19 c19_3 (seqQ (fun e w => W Try.prog 27 V19 c19_2 Q e w) Q) e w) := by rw [(by kernel_rfl : c19_1 = .seq c19_3 c19_2), W_seq]
theorem c19_s (hw : Cur w) : W Try.prog 27 V19 c19 Q e w = (opsW (nx Try.prog) mv gdP 27 V19 o19_0 (fun e w => W Try.prog 27 V19 c19_1 Q e w) o19_0.toList [] e e w) := by rw [(by kernel_rfl : c19 = .seq (.region 0 o19_0 false) c19_1), W_seq_reg]
theorem call19 {a0 a1 : Value} {w : World} {R : Value → World → Prop} (h : W Try.prog 27 V19 c19 (retQ Try.prog [.tmp 4] R) (argE [a0, a1]) w) : CallsN Try.prog 19 [a0, a1] w R :=
  callsN_of_W (c := c19) (rs := [.tmp 4]) V19 Try.ntmps19 (by rw [Try.results19]) mixed Try.func19 (by kernel_rfl) (by kernel_rfl) (by kernel_rfl) (by kernel_rfl) (by simp) h
noncomputable def hk19 := And.intro (@o19_0_eq) <| And.intro (@o19_3_eq) <| And.intro (@c19_2_s) <| And.intro (@o19_1_eq) <| And.intro (@o19_2_eq) <| And.intro (@c19_5_s) <| And.intro (@c19_4_s) <| And.intro (@c19_3_s) <| And.intro (@c19_1_s) <| @c19_s
-- K19: ↓hk19
/-! ### vouch/vouchlaw05.at -/
def V20 : Nat → Bool := fun i => [0, 1, 2, 6, 7, 8, 9, 13, 22, 34].elem i
noncomputable def c20 : Code := (Try.f20.body.getD .skip)
noncomputable def o20_0 : Array Oper := rO (cL c20)
noncomputable def c20_1 : Code := (cR c20)
noncomputable def o20_1 : Array Oper := rO (cL c20_1)
noncomputable def c20_2 : Code := (cR c20_1)
noncomputable def c20_3 : Code := (cR c20_2)
noncomputable def o20_10 : Array Oper := rO (cL c20_3)
noncomputable def c20_4 : Code := (cL c20_2)
noncomputable def o20_2 : Array Oper := rO (cL c20_4)
noncomputable def c20_5 : Code := (cR c20_4)
noncomputable def c20_6 : Code := (cL c20_5)
noncomputable def c20_7 : Code := (cL c20_6)
noncomputable def c20_8 : Code := (cR c20_7)
noncomputable def c20_9 : Code := (cR c20_8)
noncomputable def o20_4 : Array Oper := rO c20_9
noncomputable def c20_10 : Code := (cL c20_8)
noncomputable def c20_11 : Code := (cL c20_10)
noncomputable def o20_5 : Array Oper := rO (cL c20_11)
noncomputable def c20_12 : Code := (cR c20_11)
noncomputable def c20_13 : Code := (cL c20_12)
noncomputable def c20_14 : Code := (cL c20_13)
noncomputable def c20_15 : Code := (cR c20_14)
noncomputable def c20_16 : Code := (cR c20_15)
noncomputable def o20_7 : Array Oper := rO c20_16
noncomputable def c20_17 : Code := (cL c20_15)
noncomputable def c20_18 : Code := (cL c20_17)
noncomputable def o20_8 : Array Oper := rO (cL c20_18)
noncomputable def c20_19 : Code := (cR c20_18)
noncomputable def c20_20 : Code := (cL c20_19)
noncomputable def o20_9 : Array Oper := rO c20_20
noncomputable def c20_21 : Code := (cL c20_14)
noncomputable def o20_6 : Array Oper := rO (cL c20_21)
noncomputable def c20_22 : Code := (cR c20_21)
noncomputable def c20_23 : Code := (cL c20_7)
noncomputable def o20_3 : Array Oper := rO (cL c20_23)
noncomputable def c20_24 : Code := (cR c20_23)
theorem o20_0_eq : opsW N M G 44 V20 o20_0 k o20_0.toList [] e e w =
    (N (xv (Instr.alloc 29 true (.tuple #[]))) w fun t6 w =>
    k (Env.p e 6 t6) w) := nr (by kernel_rfl)
theorem o20_1_eq : opsW N M G 44 V20 o20_1 k o20_1.toList [] e e w =
    (N (xv (Instr.build 29 ([]).toArray)) w fun t10 w =>
    N (xv (Instr.alloc 29 true (.tuple #[]))) w fun t7 w =>
    N (xu (Instr.storeAt 29 t7 t10)) w fun _ w =>
    k (Env.p e 7 t7) w) := nr (by kernel_rfl)
theorem o20_10_eq : opsW N M G 44 V20 o20_10 k o20_10.toList [] e e w =
    (N (xv (Instr.loadAt 29 (e 7))) w fun t43 w =>
    N (xu (Instr.storeAt 29 (e 6) t43)) w fun _ w =>
    k e w) := nr (by kernel_rfl)
theorem c20_3_s (hw : Cur w) : W Try.prog 44 V20 c20_3 Q e w = (opsW (nx Try.prog) mv gdP 44 V20 o20_10 (fun e w => Q .ret e w) o20_10.toList [] e e w) := by rw [(by kernel_rfl : c20_3 = .seq (.region 10 o20_10 false) Code.ret), W_seq_reg]; simp only [W_ret, W_skip, W_exit, W_label]
theorem o20_2_eq : opsW N M G 44 V20 o20_2 k o20_2.toList [] e e w =
    (M (Value.int IntKind.i64 0) fun t8 =>
    k (Env.p e 8 t8) w) := nr (by kernel_rfl)
theorem o20_4_eq : opsW N M G 44 V20 o20_4 k o20_4.toList [] e e w =
    (M (e 8) fun t14 =>
    N (xv (xbin BinOp.add 3 (Operand.tmp 14) (Operand.const (Value.int IntKind.i64 1)) t14 (Value.int IntKind.i64 1))) w fun t15 w =>
    M t15 fun t8 =>
    k (Env.p e 8 t8) w) := nr (by kernel_rfl)
theorem c20_9_s (hw : Cur w) : W Try.prog 44 V20 c20_9 Q e w = (opsW (nx Try.prog) mv gdP 44 V20 o20_4 (fun e w => Q .normal e w) o20_4.toList [] e e w) := by rw [(by kernel_rfl : c20_9 = (.region 4 o20_4 false)), W_reg]
theorem o20_5_eq : opsW N M G 44 V20 o20_5 k o20_5.toList [] e e w =
    (M (Value.int IntKind.i64 0) fun t9 =>
    k (Env.p e 9 t9) w) := nr (by kernel_rfl)
theorem o20_7_eq : opsW N M G 44 V20 o20_7 k o20_7.toList [] e e w =
    (M (e 9) fun t23 =>
    N (xv (xbin BinOp.add 3 (Operand.tmp 23) (Operand.const (Value.int IntKind.i64 1)) t23 (Value.int IntKind.i64 1))) w fun t24 w =>
    M t24 fun t9 =>
    k (Env.p e 9 t9) w) := nr (by kernel_rfl)
theorem c20_16_s (hw : Cur w) : W Try.prog 44 V20 c20_16 Q e w = (opsW (nx Try.prog) mv gdP 44 V20 o20_7 (fun e w => Q .normal e w) o20_7.toList [] e e w) := by rw [(by kernel_rfl : c20_16 = (.region 7 o20_7 false)), W_reg]
theorem o20_8_eq : opsW N M G 44 V20 o20_8 k o20_8.toList [] e e w =
    (M (e 0) fun t25 =>
    M (e 8) fun t26 =>
    N (xv (Instr.indexAt 22 t25 t26)) w fun t27 w =>
    N (xv (Instr.loadAt 40 t27)) w fun t28 w =>
    M (e 9) fun t29 =>
    N (xv (Instr.indexAt 40 t28 t29)) w fun t30 w =>
    N (xv (Instr.fieldAt 44 t30 0)) w fun t31 w =>
    N (xv (Instr.loadAt 9 t31)) w fun t32 w =>
    M (e 1) fun t33 =>
    N (xv (xbin BinOp.eql 9 (Operand.tmp 32) (Operand.tmp 33) t32 t33)) w fun t34 w =>
    k (Env.p e 34 t34) w) := nr (by kernel_rfl)
theorem o20_9_eq : opsW N M G 44 V20 o20_9 k o20_9.toList [] e e w =
    (M (e 0) fun t35 =>
    M (e 8) fun t36 =>
    N (xv (Instr.indexAt 22 t35 t36)) w fun t37 w =>
    N (xv (Instr.loadAt 40 t37)) w fun t38 w =>
    M (e 9) fun t39 =>
    N (xv (Instr.indexAt 40 t38 t39)) w fun t40 w =>
    N (xv (Instr.fieldAt 44 t40 1)) w fun t41 w =>
    N (xv (Instr.loadAt 29 t41)) w fun t42 w =>
    N (xu (Instr.storeAt 29 (e 7) t42)) w fun _ w =>
    k e w) := nr (by kernel_rfl)
theorem c20_20_s (hw : Cur w) : W Try.prog 44 V20 c20_20 Q e w = (opsW (nx Try.prog) mv gdP 44 V20 o20_9 (fun e w => Q .normal e w) o20_9.toList [] e e w) := by rw [(by kernel_rfl : c20_20 = (.region 9 o20_9 false)), W_reg]
theorem c20_19_v : opV V20 (.tmp 34) = true := by kernel_rfl
theorem c20_19_s (hw : Cur w) : W Try.prog 44 V20 c20_19 Q e w = (condP (ev e (.tmp 34)) (W Try.prog 44 V20 c20_20 Q e w) (Q .normal e w)) := by rw [(by kernel_rfl : c20_19 = .cond (.tmp 34) c20_20 Code.skip), W_cond, c20_19_v, cond_true]; simp only [W_ret, W_skip, W_exit, W_label]
theorem c20_18_s (hw : Cur w) : W Try.prog 44 V20 c20_18 Q e w = (opsW (nx Try.prog) mv gdP 44 V20 o20_8 (fun e w => W Try.prog 44 V20 c20_19 Q e w) o20_8.toList [] e e w) := by rw [(by kernel_rfl : c20_18 = .seq (.region 8 o20_8 false) c20_19), W_seq_reg]
theorem c20_17_s (hw : Cur w) : W Try.prog 44 V20 c20_17 Q e w = (W Try.prog 44 V20 c20_18 (blockQ 3 Q) e w) := by rw [(by kernel_rfl : c20_17 = .block 3 c20_18), W_block]
theorem c20_15_s (hw : Cur w) : W Try.prog 44 V20 c20_15 Q e w = (W Try.prog 44 V20 c20_17 (seqQ (fun e w => W Try.prog 44 V20 c20_16 Q e w) Q) e w) := by rw [(by kernel_rfl : c20_15 = .seq c20_17 c20_16), W_seq]
theorem o20_6_eq : opsW N M G 44 V20 o20_6 k o20_6.toList [] e e w =
    (M (e 9) fun t16 =>
    M (e 0) fun t17 =>
    M (e 8) fun t18 =>
    N (xv (Instr.indexAt 22 t17 t18)) w fun t19 w =>
    N (xv (Instr.loadAt 40 t19)) w fun t20 w =>
    N (builtin Builtin.len #[40] 3 ([false]).toArray ([t20]).toArray) w fun t21 w =>
    N (xv (xbin BinOp.lss 3 (Operand.tmp 16) (Operand.tmp 21) t16 t21)) w fun t22 w =>
    k (Env.p e 22 t22) w) := nr (by kernel_rfl)
theorem c20_22_v : opV V20 (.tmp 22) = true := by kernel_rfl
theorem c20_22_s (hw : Cur w) : W Try.prog 44 V20 c20_22 Q e w = (condP (ev e (.tmp 22)) (Q .normal e w) (Q (.exit 2) e w)) := by rw [(by kernel_rfl : c20_22 = .cond (.tmp 22) Code.skip (Code.exit 2)), W_cond, c20_22_v, cond_true]; simp only [W_ret, W_skip, W_exit, W_label]
theorem c20_21_s (hw : Cur w) : W Try.prog 44 V20 c20_21 Q e w = (opsW (nx Try.prog) mv gdP 44 V20 o20_6 (fun e w => W Try.prog 44 V20 c20_22 Q e w) o20_6.toList [] e e w) := by rw [(by kernel_rfl : c20_21 = .seq (.region 6 o20_6 false) c20_22), W_seq_reg]
theorem c20_14_s (hw : Cur w) : W Try.prog 44 V20 c20_14 Q e w = (W Try.prog 44 V20 c20_21 (seqQ (fun e w => W Try.prog 44 V20 c20_15 Q e w) Q) e w) := by rw [(by kernel_rfl : c20_14 = .seq c20_21 c20_15), W_seq]
theorem c20_13_s (hw : Cur w) : W Try.prog 44 V20 c20_13 Q e w = (LoopP (fun e w k => W Try.prog 44 V20 c20_14 (seqQ k Q) e w) e w) := by rw [(by kernel_rfl : c20_13 = .loop c20_14), W_loop]
theorem c20_12_s (hw : Cur w) : W Try.prog 44 V20 c20_12 Q e w = (W Try.prog 44 V20 c20_13 (blockQ 2 Q) e w) := by rw [(by kernel_rfl : c20_12 = .block 2 c20_13), W_block]
theorem c20_11_s (hw : Cur w) : W Try.prog 44 V20 c20_11 Q e w = (opsW (nx Try.prog) mv gdP 44 V20 o20_5 (fun e w => W Try.prog 44 V20 c20_12 Q e w) o20_5.toList [] e e w) := by rw [(by kernel_rfl : c20_11 = .seq (.region 5 o20_5 false) c20_12), W_seq_reg]
theorem c20_10_s (hw : Cur w) : W Try.prog 44 V20 c20_10 Q e w = (W Try.prog 44 V20 c20_11 (blockQ 1 Q) e w) := by rw [(by kernel_rfl : c20_10 = .block 1 c20_11), W_block]
theorem c20_8_s (hw : Cur w) : W Try.prog 44 V20 c20_8 Q e w = (W Try.prog 44 V20 c20_10 (seqQ (fun e w => W Try.prog 44 V20 c20_9 Q e w) Q) e w) := by rw [(by kernel_rfl : c20_8 = .seq c20_10 c20_9), W_seq]
theorem o20_3_eq : opsW N M G 44 V20 o20_3 k o20_3.toList [] e e w =
    (M (e 8) fun t11 =>
    M (e 2) fun t12 =>
    N (xv (xbin BinOp.lss 3 (Operand.tmp 11) (Operand.tmp 12) t11 t12)) w fun t13 w =>
    k (Env.p e 13 t13) w) := nr (by kernel_rfl)
theorem c20_24_v : opV V20 (.tmp 13) = true := by kernel_rfl
theorem c20_24_s (hw : Cur w) : W Try.prog 44 V20 c20_24 Q e w = (condP (ev e (.tmp 13)) (Q .normal e w) (Q (.exit 0) e w)) := by rw [(by kernel_rfl : c20_24 = .cond (.tmp 13) Code.skip (Code.exit 0)), W_cond, c20_24_v, cond_true]; simp only [W_ret, W_skip, W_exit, W_label]
theorem c20_23_s (hw : Cur w) : W Try.prog 44 V20 c20_23 Q e w = (opsW (nx Try.prog) mv gdP 44 V20 o20_3 (fun e w => W Try.prog 44 V20 c20_24 Q e w) o20_3.toList [] e e w) := by rw [(by kernel_rfl : c20_23 = .seq (.region 3 o20_3 false) c20_24), W_seq_reg]
theorem c20_7_s (hw : Cur w) : W Try.prog 44 V20 c20_7 Q e w = (W Try.prog 44 V20 c20_23 (seqQ (fun e w => W Try.prog 44 V20 c20_8 Q e w) Q) e w) := by rw [(by kernel_rfl : c20_7 = .seq c20_23 c20_8), W_seq]
theorem c20_6_s (hw : Cur w) : W Try.prog 44 V20 c20_6 Q e w = (LoopP (fun e w k => W Try.prog 44 V20 c20_7 (seqQ k Q) e w) e w) := by rw [(by kernel_rfl : c20_6 = .loop c20_7), W_loop]
theorem c20_5_s (hw : Cur w) : W Try.prog 44 V20 c20_5 Q e w = (W Try.prog 44 V20 c20_6 (blockQ 0 Q) e w) := by rw [(by kernel_rfl : c20_5 = .block 0 c20_6), W_block]
theorem c20_4_s (hw : Cur w) : W Try.prog 44 V20 c20_4 Q e w = (opsW (nx Try.prog) mv gdP 44 V20 o20_2 (fun e w => W Try.prog 44 V20 c20_5 Q e w) o20_2.toList [] e e w) := by rw [(by kernel_rfl : c20_4 = .seq (.region 2 o20_2 false) c20_5), W_seq_reg]
theorem c20_2_s (hw : Cur w) : W Try.prog 44 V20 c20_2 Q e w = (W Try.prog 44 V20 c20_4 (seqQ (fun e w => W Try.prog 44 V20 c20_3 Q e w) Q) e w) := by rw [(by kernel_rfl : c20_2 = .seq c20_4 c20_3), W_seq]
theorem c20_1_s (hw : Cur w) : W Try.prog 44 V20 c20_1 Q e w = (opsW (nx Try.prog) mv gdP 44 V20 o20_1 (fun e w => W Try.prog 44 V20 c20_2 Q e w) o20_1.toList [] e e w) := by rw [(by kernel_rfl : c20_1 = .seq (.region 1 o20_1 false) c20_2), W_seq_reg]
theorem c20_s (hw : Cur w) : W Try.prog 44 V20 c20 Q e w = (opsW (nx Try.prog) mv gdP 44 V20 o20_0 (fun e w => W Try.prog 44 V20 c20_1 Q e w) o20_0.toList [] e e w) := by rw [(by kernel_rfl : c20 = .seq (.region 0 o20_0 false) c20_1), W_seq_reg]
theorem call20 {a0 a1 a2 : Value} {w : World} {R : Value → World → Prop} (h : W Try.prog 44 V20 c20 (retQ Try.prog [.cell 6 29] R) (argE [a0, a1, a2]) w) : CallsN Try.prog 20 [a0, a1, a2] w R :=
  callsN_of_W (c := c20) (rs := [.cell 6 29]) V20 Try.ntmps20 (by rw [Try.results20]) mixed Try.func20 (by kernel_rfl) (by kernel_rfl) (by kernel_rfl) (by kernel_rfl) (by simp) h
noncomputable def hk20 := And.intro (@o20_0_eq) <| And.intro (@o20_1_eq) <| And.intro (@o20_10_eq) <| And.intro (@c20_3_s) <| And.intro (@o20_2_eq) <| And.intro (@o20_4_eq) <| And.intro (@c20_9_s) <| And.intro (@o20_5_eq) <| And.intro (@o20_7_eq) <| And.intro (@c20_16_s) <| And.intro (@o20_8_eq) <| And.intro (@o20_9_eq) <| And.intro (@c20_20_s) <| And.intro (@c20_19_s) <| And.intro (@c20_18_s) <| And.intro (@c20_17_s) <| And.intro (@c20_15_s) <| And.intro (@o20_6_eq) <| And.intro (@c20_22_s) <| And.intro (@c20_21_s) <| And.intro (@c20_14_s) <| And.intro (@c20_13_s) <| And.intro (@c20_12_s) <| And.intro (@c20_11_s) <| And.intro (@c20_10_s) <| And.intro (@c20_8_s) <| And.intro (@o20_3_eq) <| And.intro (@c20_24_s) <| And.intro (@c20_23_s) <| And.intro (@c20_7_s) <| And.intro (@c20_6_s) <| And.intro (@c20_5_s) <| And.intro (@c20_4_s) <| And.intro (@c20_2_s) <| And.intro (@c20_1_s) <| @c20_s
-- K20: ↓hk20
/-! ### (*vouch/store.Store) . Commit -/
def V21 : Nat → Bool := fun i => [0, 1, 4, 5, 6, 8, 9, 10, 12, 16, 22, 30, 31, 32, 33, 61].elem i
noncomputable def c21 : Code := (Try.f21.body.getD .skip)
noncomputable def o21_0 : Array Oper := rO (cL c21)
noncomputable def c21_1 : Code := (cR c21)
noncomputable def c21_2 : Code := (cR c21_1)
noncomputable def c21_3 : Code := (cR c21_2)
noncomputable def c21_4 : Code := (cR c21_3)
noncomputable def o21_8 : Array Oper := rO (cL c21_4)
noncomputable def c21_5 : Code := (cR c21_4)
noncomputable def c21_6 : Code := (cR c21_5)
noncomputable def o21_18 : Array Oper := rO (cL c21_6)
noncomputable def c21_7 : Code := (cL c21_5)
noncomputable def o21_9 : Array Oper := rO (cL c21_7)
noncomputable def c21_8 : Code := (cR c21_7)
noncomputable def c21_9 : Code := (cL c21_8)
noncomputable def c21_10 : Code := (cL c21_9)
noncomputable def o21_10 : Array Oper := rO (cL c21_10)
noncomputable def c21_11 : Code := (cR c21_10)
noncomputable def c21_12 : Code := (cR c21_11)
noncomputable def c21_13 : Code := (cR c21_12)
noncomputable def o21_17 : Array Oper := rO c21_13
noncomputable def c21_14 : Code := (cL c21_12)
noncomputable def c21_15 : Code := (cL c21_14)
noncomputable def o21_11 : Array Oper := rO (cL c21_15)
noncomputable def c21_16 : Code := (cR c21_15)
noncomputable def o21_12 : Array Oper := rO (cL c21_16)
noncomputable def c21_17 : Code := (cR c21_16)
noncomputable def o21_13 : Array Oper := rO (cL c21_17)
noncomputable def c21_18 : Code := (cR c21_17)
noncomputable def c21_19 : Code := (cR c21_18)
noncomputable def o21_16 : Array Oper := rO c21_19
noncomputable def c21_20 : Code := (cL c21_18)
noncomputable def o21_14 : Array Oper := rO (cL c21_20)
noncomputable def c21_21 : Code := (cR c21_20)
noncomputable def c21_22 : Code := (cL c21_21)
noncomputable def o21_15 : Array Oper := rO c21_22
noncomputable def c21_23 : Code := (cL c21_11)
noncomputable def c21_24 : Code := (cL c21_3)
noncomputable def o21_6 : Array Oper := rO (cL c21_24)
noncomputable def c21_25 : Code := (cR c21_24)
noncomputable def c21_26 : Code := (cL c21_25)
noncomputable def o21_7 : Array Oper := rO (cL c21_26)
noncomputable def c21_27 : Code := (cL c21_2)
noncomputable def o21_3 : Array Oper := rO (cL c21_27)
noncomputable def c21_28 : Code := (cR c21_27)
noncomputable def o21_4 : Array Oper := rO (cL c21_28)
noncomputable def c21_29 : Code := (cR c21_28)
noncomputable def c21_30 : Code := (cL c21_29)
noncomputable def o21_5 : Array Oper := rO (cL c21_30)
noncomputable def c21_31 : Code := (cL c21_1)
noncomputable def o21_1 : Array Oper := rO (cL c21_31)
noncomputable def c21_32 : Code := (cR c21_31)
noncomputable def c21_33 : Code := (cL c21_32)
noncomputable def o21_2 : Array Oper := rO (cL c21_33)
theorem o21_0_eq : opsW N M G 87 V21 o21_0 k o21_0.toList [] e e w =
    (M (Value.int IntKind.i64 0) fun t4 =>
    M (Value.int IntKind.i64 0) fun t5 =>
    k (Env.p (Env.p e 4 t4) 5 t5) w) := nr (by kernel_rfl)
theorem o21_8_eq : opsW N M G 87 V21 o21_8 k o21_8.toList [] e e w =
    (M (e 0) fun t23 =>
    N (xnil t23) w fun t24 w =>
    N (xv (Instr.fieldAt 111 t24 2)) w fun t25 w =>
    N (xv (Instr.loadAt 2 t25)) w fun t26 w =>
    N (xv (xbin BinOp.add 2 (Operand.tmp 26) (Operand.const (Value.int IntKind.i64 1)) t26 (Value.int IntKind.i64 1))) w fun t27 w =>
    N (xnil t23) w fun t28 w =>
    N (xv (Instr.fieldAt 111 t28 2)) w fun t29 w =>
    N (xu (Instr.storeAt 2 t29 t27)) w fun _ w =>
    k e w) := nr (by kernel_rfl)
theorem o21_18_eq : opsW N M G 87 V21 o21_18 k o21_18.toList [] e e w =
    (M (e 0) fun t83 =>
    N (xnil t83) w fun t84 w =>
    N (xv (Instr.fieldAt 111 t84 2)) w fun t85 w =>
    N (xv (Instr.loadAt 2 t85)) w fun t86 w =>
    M t86 fun t4 =>
    M (Value.int IntKind.i64 0) fun t5 =>
    k (Env.p (Env.p e 4 t4) 5 t5) w) := nr (by kernel_rfl)
theorem c21_6_s (hw : Cur w) : W Try.prog 87 V21 c21_6 Q e w = (opsW (nx Try.prog) mv gdP 87 V21 o21_18 (fun e w => Q .ret e w) o21_18.toList [] e e w) := by rw [(by kernel_rfl : c21_6 = .seq (.region 18 o21_18 false) Code.ret), W_seq_reg]; simp only [W_ret, W_skip, W_exit, W_label]
theorem o21_9_eq : opsW N M G 87 V21 o21_9 k o21_9.toList [] e e w =
    (M (e 1) fun t30 =>
    N (builtin Builtin.len #[40] 3 ([false]).toArray ([t30]).toArray) w fun t31 w =>
    M (Value.int IntKind.i64 0) fun t32 =>
    k (Env.p (Env.p (Env.p e 30 t30) 31 t31) 32 t32) w) := nr (by kernel_rfl)
theorem o21_10_eq : opsW N M G 87 V21 o21_10 k o21_10.toList [] e e w =
    (N (xv (xbin BinOp.lss 3 (Operand.tmp 32) (Operand.tmp 31) (e 32) (e 31))) w fun t33 w =>
    k (Env.p e 33 t33) w) := nr (by kernel_rfl)
theorem o21_17_eq : opsW N M G 87 V21 o21_17 k o21_17.toList [] e e w =
    (N (xv (xbin BinOp.add 3 (Operand.tmp 32) (Operand.const (Value.int IntKind.i64 1)) (e 32) (Value.int IntKind.i64 1))) w fun t82 w =>
    M t82 fun t32 =>
    k (Env.p e 32 t32) w) := nr (by kernel_rfl)
theorem c21_13_s (hw : Cur w) : W Try.prog 87 V21 c21_13 Q e w = (opsW (nx Try.prog) mv gdP 87 V21 o21_17 (fun e w => Q .normal e w) o21_17.toList [] e e w) := by rw [(by kernel_rfl : c21_13 = (.region 17 o21_17 false)), W_reg]
theorem o21_11_eq : opsW N M G 87 V21 o21_11 k o21_11.toList [] e e w =
    (N (xv (Instr.indexAt 40 (e 30) (e 32))) w fun t34 w =>
    N (xv (Instr.loadAt 44 t34)) w fun t35 w =>
    N (xv (Instr.alloc 44 true (.tuple #[]))) w fun t8 w =>
    N (xu (Instr.storeAt 44 t8 t35)) w fun _ w =>
    k (Env.p e 8 t8) w) := nr (by kernel_rfl)
theorem o21_12_eq : drawGo N T M G H 87 V21 o21_12 S k o21_12.size true (Array.replicate o21_12.size false) [] e e w =
    (M (e 0) fun t36 =>
    T (xnil t36) fun t37 =>
    T (xv (Instr.fieldAt 111 t37 0)) fun t38 =>
    T (xv (Instr.loadAt 109 t38)) fun t39 =>
    T (xv (Instr.fieldAt 44 (e 8) 0)) fun t40 =>
    T (xv (Instr.loadAt 9 t40)) fun t41 =>
    T (xv (Instr.lookup 109 t39 t41 false)) fun t42 =>
    N (xv (Instr.alloc 114 true (.tuple #[]))) w fun t9 w =>
    S w ∧ (N (xu (Instr.storeAt 114 t9 t42)) w fun _ w =>
    k (Env.p e 9 t9) w)) := nr (by kernel_rfl)
theorem o21_13_eq : drawGo N T M G H 87 V21 o21_13 S k o21_13.size true (Array.replicate o21_13.size false) [] e e w =
    (T (xv (Instr.fieldAt 114 (e 9) 0)) fun t43 =>
    T (xv (Instr.loadAt 46 t43)) fun t44 =>
    M (e 0) fun t46 =>
    T (xnil t46) fun t47 =>
    T (xv (Instr.fieldAt 111 t47 2)) fun t48 =>
    T (xv (Instr.loadAt 2 t48)) fun t49 =>
    T (xv (Instr.fieldAt 44 (e 8) 1)) fun t50 =>
    T (xv (Instr.loadAt 29 t50)) fun t51 =>
    T (xv (Instr.build 106 ([(0, t49), (1, t51)]).toArray)) fun t52 =>
    (N (xcall (Value.func (Fn.func 57) #[] #[]) [t44]) w fun t45 w =>
    S w ∧ (N (xv (Instr.buildSlice 46 1 ([(0, t52)]).toArray)) w fun t53 w =>
    S w ∧ (N (builtin Builtin.append #[46, 46] 46 ([false, false]).toArray ([t45, t53]).toArray) w fun t54 w =>
    S w ∧ (M t54 fun t10 =>
    k (Env.p e 10 t10) w)))) ∧ (N (xv (Instr.buildSlice 46 1 ([(0, t52)]).toArray)) w fun t53 w =>
    S w ∧ (N (xcall (Value.func (Fn.func 57) #[] #[]) [t44]) w fun t45 w =>
    S w ∧ (N (builtin Builtin.append #[46, 46] 46 ([false, false]).toArray ([t45, t53]).toArray) w fun t54 w =>
    S w ∧ (M t54 fun t10 =>
    k (Env.p e 10 t10) w))))) := nr (by kernel_rfl)
theorem o21_16_eq : drawGo N T M G H 87 V21 o21_16 S k o21_16.size true (Array.replicate o21_16.size false) [] e e w =
    (M (e 0) fun t72 =>
    T (xnil t72) fun t73 =>
    T (xv (Instr.fieldAt 111 t73 0)) fun t74 =>
    T (xv (Instr.loadAt 109 t74)) fun t75 =>
    T (xv (Instr.fieldAt 44 (e 8) 0)) fun t76 =>
    T (xv (Instr.loadAt 9 t76)) fun t77 =>
    M (e 10) fun t78 =>
    T (xv (Instr.fieldAt 114 (e 9) 1)) fun t79 =>
    T (xv (Instr.loadAt 4 t79)) fun t80 =>
    T (xv (Instr.build 114 ([(0, t78), (1, t80)]).toArray)) fun t81 =>
    N (xu (Instr.mapUpdate 109 t75 t77 t81)) w fun _ w =>
    k e w) := nr (by kernel_rfl)
theorem c21_19_s (hw : Cur w) : W Try.prog 87 V21 c21_19 Q e w = (∃ S : World → Prop, S w.drew ∧ drawGo (nx Try.prog) (takeP Try.prog S) mv gdP gdT 87 V21 o21_16 S (fun e w => Q .normal e w) o21_16.size true (Array.replicate o21_16.size false) [] e e w.drew) := by rw [(by kernel_rfl : c21_19 = (.region 16 o21_16 true)), W_regD']
theorem o21_14_eq : opsW N M G 87 V21 o21_14 k o21_14.toList [] e e w =
    (M (e 10) fun t55 =>
    N (builtin Builtin.len #[46] 3 ([false]).toArray ([t55]).toArray) w fun t56 w =>
    M (e 0) fun t57 =>
    N (xnil t57) w fun t58 w =>
    N (xv (Instr.fieldAt 111 t58 1)) w fun t59 w =>
    N (xv (Instr.loadAt 3 t59)) w fun t60 w =>
    N (xv (xbin BinOp.gtr 3 (Operand.tmp 56) (Operand.tmp 60) t56 t60)) w fun t61 w =>
    k (Env.p e 61 t61) w) := nr (by kernel_rfl)
theorem o21_15_eq : opsW N M G 87 V21 o21_15 k o21_15.toList [] e e w =
    (M (e 10) fun t62 =>
    M (e 10) fun t63 =>
    N (builtin Builtin.len #[46] 3 ([false]).toArray ([t63]).toArray) w fun t64 w =>
    M (e 0) fun t65 =>
    N (xnil t65) w fun t66 w =>
    N (xv (Instr.fieldAt 111 t66 1)) w fun t67 w =>
    N (xv (Instr.loadAt 3 t67)) w fun t68 w =>
    N (xv (xbin BinOp.sub 3 (Operand.tmp 64) (Operand.tmp 68) t64 t68)) w fun t69 w =>
    N (xv (Instr.sliceAt 46 t62 (some t69) none none)) w fun t70 w =>
    M t70 fun t10 =>
    N (xv (Instr.fieldAt 114 (e 9) 1)) w fun t71 w =>
    N (xu (Instr.storeAt 4 t71 (Value.bool true))) w fun _ w =>
    k (Env.p e 10 t10) w) := nr (by kernel_rfl)
theorem c21_22_s (hw : Cur w) : W Try.prog 87 V21 c21_22 Q e w = (opsW (nx Try.prog) mv gdP 87 V21 o21_15 (fun e w => Q .normal e w) o21_15.toList [] e e w) := by rw [(by kernel_rfl : c21_22 = (.region 15 o21_15 false)), W_reg]
theorem c21_21_v : opV V21 (.tmp 61) = true := by kernel_rfl
theorem c21_21_s (hw : Cur w) : W Try.prog 87 V21 c21_21 Q e w = (condP (ev e (.tmp 61)) (W Try.prog 87 V21 c21_22 Q e w) (Q .normal e w)) := by rw [(by kernel_rfl : c21_21 = .cond (.tmp 61) c21_22 Code.skip), W_cond, c21_21_v, cond_true]; simp only [W_ret, W_skip, W_exit, W_label]
theorem c21_20_s (hw : Cur w) : W Try.prog 87 V21 c21_20 Q e w = (opsW (nx Try.prog) mv gdP 87 V21 o21_14 (fun e w => W Try.prog 87 V21 c21_21 Q e w) o21_14.toList [] e e w) := by rw [(by kernel_rfl : c21_20 = .seq (.region 14 o21_14 false) c21_21), W_seq_reg]
theorem c21_18_s (hw : Cur w) : W Try.prog 87 V21 c21_18 Q e w = (W Try.prog 87 V21 c21_20 (seqQ (fun e w => W Try.prog 87 V21 c21_19 Q e w) Q) e w) := by rw [(by kernel_rfl : c21_18 = .seq c21_20 c21_19), W_seq]
theorem c21_17_s (hw : Cur w) : W Try.prog 87 V21 c21_17 Q e w = (∃ S : World → Prop, S w.drew ∧ drawGo (nx Try.prog) (takeP Try.prog S) mv gdP gdT 87 V21 o21_13 S (fun e w => W Try.prog 87 V21 c21_18 Q e w) o21_13.size true (Array.replicate o21_13.size false) [] e e w.drew) := by rw [(by kernel_rfl : c21_17 = .seq (.region 13 o21_13 true) c21_18), W_seq_regD]
theorem c21_16_s (hw : Cur w) : W Try.prog 87 V21 c21_16 Q e w = (∃ S : World → Prop, S w.drew ∧ drawGo (nx Try.prog) (takeP Try.prog S) mv gdP gdT 87 V21 o21_12 S (fun e w => W Try.prog 87 V21 c21_17 Q e w) o21_12.size true (Array.replicate o21_12.size false) [] e e w.drew) := by rw [(by kernel_rfl : c21_16 = .seq (.region 12 o21_12 true) c21_17), W_seq_regD]
theorem c21_15_s (hw : Cur w) : W Try.prog 87 V21 c21_15 Q e w = (opsW (nx Try.prog) mv gdP 87 V21 o21_11 (fun e w => W Try.prog 87 V21 c21_16 Q e w) o21_11.toList [] e e w) := by rw [(by kernel_rfl : c21_15 = .seq (.region 11 o21_11 false) c21_16), W_seq_reg]
theorem c21_14_s (hw : Cur w) : W Try.prog 87 V21 c21_14 Q e w = (W Try.prog 87 V21 c21_15 (blockQ 1 Q) e w) := by rw [(by kernel_rfl : c21_14 = .block 1 c21_15), W_block]
theorem c21_12_s (hw : Cur w) : W Try.prog 87 V21 c21_12 Q e w = (W Try.prog 87 V21 c21_14 (seqQ (fun e w => W Try.prog 87 V21 c21_13 Q e w) Q) e w) := by rw [(by kernel_rfl : c21_12 = .seq c21_14 c21_13), W_seq]
theorem c21_23_v : opV V21 (.tmp 33) = true := by kernel_rfl
theorem c21_23_s (hw : Cur w) : W Try.prog 87 V21 c21_23 Q e w = (condP (ev e (.tmp 33)) (Q .normal e w) (Q (.exit 0) e w)) := by rw [(by kernel_rfl : c21_23 = .cond (.tmp 33) Code.skip (Code.exit 0)), W_cond, c21_23_v, cond_true]; simp only [W_ret, W_skip, W_exit, W_label]
theorem c21_11_s (hw : Cur w) : W Try.prog 87 V21 c21_11 Q e w = (W Try.prog 87 V21 c21_23 (seqQ (fun e w => W Try.prog 87 V21 c21_12 Q e w) Q) e w) := by rw [(by kernel_rfl : c21_11 = .seq c21_23 c21_12), W_seq]
theorem c21_10_s (hw : Cur w) : W Try.prog 87 V21 c21_10 Q e w = (opsW (nx Try.prog) mv gdP 87 V21 o21_10 (fun e w => W Try.prog 87 V21 c21_11 Q e w) o21_10.toList [] e e w) := by rw [(by kernel_rfl : c21_10 = .seq (.region 10 o21_10 false) c21_11), W_seq_reg]
theorem c21_9_s (hw : Cur w) : W Try.prog 87 V21 c21_9 Q e w = (LoopP (fun e w k => W Try.prog 87 V21 c21_10 (seqQ k Q) e w) e w) := by rw [(by kernel_rfl : c21_9 = .loop c21_10), W_loop]
theorem c21_8_s (hw : Cur w) : W Try.prog 87 V21 c21_8 Q e w = (W Try.prog 87 V21 c21_9 (blockQ 0 Q) e w) := by rw [(by kernel_rfl : c21_8 = .block 0 c21_9), W_block]
theorem c21_7_s (hw : Cur w) : W Try.prog 87 V21 c21_7 Q e w = (opsW (nx Try.prog) mv gdP 87 V21 o21_9 (fun e w => W Try.prog 87 V21 c21_8 Q e w) o21_9.toList [] e e w) := by rw [(by kernel_rfl : c21_7 = .seq (.region 9 o21_9 false) c21_8), W_seq_reg]
theorem c21_5_s (hw : Cur w) : W Try.prog 87 V21 c21_5 Q e w = (W Try.prog 87 V21 c21_7 (seqQ (fun e w => W Try.prog 87 V21 c21_6 Q e w) Q) e w) := by rw [(by kernel_rfl : c21_5 = .seq c21_7 c21_6), W_seq]
theorem c21_4_s (hw : Cur w) : W Try.prog 87 V21 c21_4 Q e w = (opsW (nx Try.prog) mv gdP 87 V21 o21_8 (fun e w => W Try.prog 87 V21 c21_5 Q e w) o21_8.toList [] e e w) := by rw [(by kernel_rfl : c21_4 = .seq (.region 8 o21_8 false) c21_5), W_seq_reg]
theorem o21_6_eq : opsW N M G 87 V21 o21_6 k o21_6.toList [] e e w =
    (M (e 0) fun t18 =>
    N (xnil t18) w fun t19 w =>
    N (xv (Instr.fieldAt 111 t19 2)) w fun t20 w =>
    N (xv (Instr.loadAt 2 t20)) w fun t21 w =>
    N (xv (xbin BinOp.geq 2 (Operand.tmp 21) (Operand.const (Value.int IntKind.i64 1099511627776)) t21 (Value.int IntKind.i64 1099511627776))) w fun t22 w =>
    k (Env.p e 22 t22) w) := nr (by kernel_rfl)
theorem o21_7_eq : opsW N M G 87 V21 o21_7 k o21_7.toList [] e e w =
    (M (Value.int IntKind.i64 0) fun t4 =>
    M (Value.int IntKind.i64 2) fun t5 =>
    k (Env.p (Env.p e 4 t4) 5 t5) w) := nr (by kernel_rfl)
theorem c21_26_s (hw : Cur w) : W Try.prog 87 V21 c21_26 Q e w = (opsW (nx Try.prog) mv gdP 87 V21 o21_7 (fun e w => Q .ret e w) o21_7.toList [] e e w) := by rw [(by kernel_rfl : c21_26 = .seq (.region 7 o21_7 false) Code.ret), W_seq_reg]; simp only [W_ret, W_skip, W_exit, W_label]
theorem c21_25_v : opV V21 (.tmp 22) = true := by kernel_rfl
theorem c21_25_s (hw : Cur w) : W Try.prog 87 V21 c21_25 Q e w = (condP (ev e (.tmp 22)) (W Try.prog 87 V21 c21_26 Q e w) (Q .normal e w)) := by rw [(by kernel_rfl : c21_25 = .cond (.tmp 22) c21_26 Code.skip), W_cond, c21_25_v, cond_true]; simp only [W_ret, W_skip, W_exit, W_label]
theorem c21_24_s (hw : Cur w) : W Try.prog 87 V21 c21_24 Q e w = (opsW (nx Try.prog) mv gdP 87 V21 o21_6 (fun e w => W Try.prog 87 V21 c21_25 Q e w) o21_6.toList [] e e w) := by rw [(by kernel_rfl : c21_24 = .seq (.region 6 o21_6 false) c21_25), W_seq_reg]
theorem c21_3_s (hw : Cur w) : W Try.prog 87 V21 c21_3 Q e w = (W Try.prog 87 V21 c21_24 (seqQ (fun e w => W Try.prog 87 V21 c21_4 Q e w) Q) e w) := by rw [(by kernel_rfl : c21_3 = .seq c21_24 c21_4), W_seq]
theorem o21_3_eq : opsW N M G 87 V21 o21_3 k o21_3.toList [] e e w =
    (M (e 1) fun t13 =>
    N (xcall (Value.func (Fn.func 56) #[] #[]) [t13]) w fun t14 w =>
    M t14 fun t6 =>
    k (Env.p e 6 t6) w) := nr (by kernel_rfl)
theorem o21_4_eq : opsW N M G 87 V21 o21_4 k o21_4.toList [] e e w =
    (M (e 6) fun t15 =>
    N (xv (xbin BinOp.neq 32 (Operand.tmp 15) (Operand.const (Value.int IntKind.i64 0)) t15 (Value.int IntKind.i64 0))) w fun t16 w =>
    k (Env.p e 16 t16) w) := nr (by kernel_rfl)
theorem o21_5_eq : opsW N M G 87 V21 o21_5 k o21_5.toList [] e e w =
    (M (e 6) fun t17 =>
    M (Value.int IntKind.i64 0) fun t4 =>
    M t17 fun t5 =>
    k (Env.p (Env.p e 4 t4) 5 t5) w) := nr (by kernel_rfl)
theorem c21_30_s (hw : Cur w) : W Try.prog 87 V21 c21_30 Q e w = (opsW (nx Try.prog) mv gdP 87 V21 o21_5 (fun e w => Q .ret e w) o21_5.toList [] e e w) := by rw [(by kernel_rfl : c21_30 = .seq (.region 5 o21_5 false) Code.ret), W_seq_reg]; simp only [W_ret, W_skip, W_exit, W_label]
theorem c21_29_v : opV V21 (.tmp 16) = true := by kernel_rfl
theorem c21_29_s (hw : Cur w) : W Try.prog 87 V21 c21_29 Q e w = (condP (ev e (.tmp 16)) (W Try.prog 87 V21 c21_30 Q e w) (Q .normal e w)) := by rw [(by kernel_rfl : c21_29 = .cond (.tmp 16) c21_30 Code.skip), W_cond, c21_29_v, cond_true]; simp only [W_ret, W_skip, W_exit, W_label]
theorem c21_28_s (hw : Cur w) : W Try.prog 87 V21 c21_28 Q e w = (opsW (nx Try.prog) mv gdP 87 V21 o21_4 (fun e w => W Try.prog 87 V21 c21_29 Q e w) o21_4.toList [] e e w) := by rw [(by kernel_rfl : c21_28 = .seq (.region 4 o21_4 false) c21_29), W_seq_reg]
theorem c21_27_s (hw : Cur w) : W Try.prog 87 V21 c21_27 Q e w = (opsW (nx Try.prog) mv gdP 87 V21 o21_3 (fun e w => W Try.prog 87 V21 c21_28 Q e w) o21_3.toList [] e e w) := by rw [(by kernel_rfl : c21_27 = .seq (.region 3 o21_3 false) c21_28), W_seq_reg]
theorem c21_2_s (hw : Cur w) : W Try.prog 87 V21 c21_2 Q e w = (W Try.prog 87 V21 c21_27 (seqQ (fun e w => W Try.prog 87 V21 c21_3 Q e w) Q) e w) := by rw [(by kernel_rfl : c21_2 = .seq c21_27 c21_3), W_seq]
theorem o21_1_eq : opsW N M G 87 V21 o21_1 k o21_1.toList [] e e w =
    (M (e 0) fun t11 =>
    N (xv (xbin BinOp.eql 24 (Operand.tmp 11) (Operand.const (Value.pointer none)) t11 (Value.pointer none))) w fun t12 w =>
    k (Env.p e 12 t12) w) := nr (by kernel_rfl)
theorem o21_2_eq : opsW N M G 87 V21 o21_2 k o21_2.toList [] e e w =
    (M (Value.int IntKind.i64 0) fun t4 =>
    M (Value.int IntKind.i64 3) fun t5 =>
    k (Env.p (Env.p e 4 t4) 5 t5) w) := nr (by kernel_rfl)
theorem c21_33_s (hw : Cur w) : W Try.prog 87 V21 c21_33 Q e w = (opsW (nx Try.prog) mv gdP 87 V21 o21_2 (fun e w => Q .ret e w) o21_2.toList [] e e w) := by rw [(by kernel_rfl : c21_33 = .seq (.region 2 o21_2 false) Code.ret), W_seq_reg]; simp only [W_ret, W_skip, W_exit, W_label]
theorem c21_32_v : opV V21 (.tmp 12) = true := by kernel_rfl
theorem c21_32_s (hw : Cur w) : W Try.prog 87 V21 c21_32 Q e w = (condP (ev e (.tmp 12)) (W Try.prog 87 V21 c21_33 Q e w) (Q .normal e w)) := by rw [(by kernel_rfl : c21_32 = .cond (.tmp 12) c21_33 Code.skip), W_cond, c21_32_v, cond_true]; simp only [W_ret, W_skip, W_exit, W_label]
theorem c21_31_s (hw : Cur w) : W Try.prog 87 V21 c21_31 Q e w = (opsW (nx Try.prog) mv gdP 87 V21 o21_1 (fun e w => W Try.prog 87 V21 c21_32 Q e w) o21_1.toList [] e e w) := by rw [(by kernel_rfl : c21_31 = .seq (.region 1 o21_1 false) c21_32), W_seq_reg]
theorem c21_1_s (hw : Cur w) : W Try.prog 87 V21 c21_1 Q e w = (W Try.prog 87 V21 c21_31 (seqQ (fun e w => W Try.prog 87 V21 c21_2 Q e w) Q) e w) := by rw [(by kernel_rfl : c21_1 = .seq c21_31 c21_2), W_seq]
theorem c21_s (hw : Cur w) : W Try.prog 87 V21 c21 Q e w = (opsW (nx Try.prog) mv gdP 87 V21 o21_0 (fun e w => W Try.prog 87 V21 c21_1 Q e w) o21_0.toList [] e e w) := by rw [(by kernel_rfl : c21 = .seq (.region 0 o21_0 false) c21_1), W_seq_reg]
theorem call21 {a0 a1 : Value} {w : World} {R : Value → World → Prop} (h : W Try.prog 87 V21 c21 (retQ Try.prog [.tmp 4, .tmp 5] R) (argE [a0, a1]) w) : CallsN Try.prog 21 [a0, a1] w R :=
  callsN_of_W (c := c21) (rs := [.tmp 4, .tmp 5]) V21 Try.ntmps21 (by rw [Try.results21]) mixed Try.func21 (by kernel_rfl) (by kernel_rfl) (by kernel_rfl) (by kernel_rfl) (by simp) h
noncomputable def hk21 := And.intro (@o21_0_eq) <| And.intro (@o21_8_eq) <| And.intro (@o21_18_eq) <| And.intro (@c21_6_s) <| And.intro (@o21_9_eq) <| And.intro (@o21_10_eq) <| And.intro (@o21_17_eq) <| And.intro (@c21_13_s) <| And.intro (@o21_11_eq) <| And.intro (@o21_12_eq) <| And.intro (@o21_13_eq) <| And.intro (@o21_16_eq) <| And.intro (@c21_19_s) <| And.intro (@o21_14_eq) <| And.intro (@o21_15_eq) <| And.intro (@c21_22_s) <| And.intro (@c21_21_s) <| And.intro (@c21_20_s) <| And.intro (@c21_18_s) <| And.intro (@c21_17_s) <| And.intro (@c21_16_s) <| And.intro (@c21_15_s) <| And.intro (@c21_14_s) <| And.intro (@c21_12_s) <| And.intro (@c21_23_s) <| And.intro (@c21_11_s) <| And.intro (@c21_10_s) <| And.intro (@c21_9_s) <| And.intro (@c21_8_s) <| And.intro (@c21_7_s) <| And.intro (@c21_5_s) <| And.intro (@c21_4_s) <| And.intro (@o21_6_eq) <| And.intro (@o21_7_eq) <| And.intro (@c21_26_s) <| And.intro (@c21_25_s) <| And.intro (@c21_24_s) <| And.intro (@c21_3_s) <| And.intro (@o21_3_eq) <| And.intro (@o21_4_eq) <| And.intro (@o21_5_eq) <| And.intro (@c21_30_s) <| And.intro (@c21_29_s) <| And.intro (@c21_28_s) <| And.intro (@c21_27_s) <| And.intro (@c21_2_s) <| And.intro (@o21_1_eq) <| And.intro (@o21_2_eq) <| And.intro (@c21_33_s) <| And.intro (@c21_32_s) <| And.intro (@c21_31_s) <| And.intro (@c21_1_s) <| @c21_s
-- K21: ↓hk21
/-! ### (*vouch/store.Store) . Last -/
def V22 : Nat → Bool := fun i => [0, 2, 4].elem i
noncomputable def c22 : Code := (Try.f22.body.getD .skip)
noncomputable def o22_0 : Array Oper := rO (cL c22)
noncomputable def c22_1 : Code := (cR c22)
noncomputable def c22_2 : Code := (cR c22_1)
noncomputable def o22_3 : Array Oper := rO (cL c22_2)
noncomputable def c22_3 : Code := (cL c22_1)
noncomputable def o22_1 : Array Oper := rO (cL c22_3)
noncomputable def c22_4 : Code := (cR c22_3)
noncomputable def c22_5 : Code := (cL c22_4)
noncomputable def o22_2 : Array Oper := rO (cL c22_5)
theorem o22_0_eq : opsW N M G 9 V22 o22_0 k o22_0.toList [] e e w =
    (M (Value.int IntKind.i64 0) fun t2 =>
    k (Env.p e 2 t2) w) := nr (by kernel_rfl)
theorem o22_3_eq : opsW N M G 9 V22 o22_3 k o22_3.toList [] e e w =
    (M (e 0) fun t5 =>
    N (xnil t5) w fun t6 w =>
    N (xv (Instr.fieldAt 111 t6 2)) w fun t7 w =>
    N (xv (Instr.loadAt 2 t7)) w fun t8 w =>
    M t8 fun t2 =>
    k (Env.p e 2 t2) w) := nr (by kernel_rfl)
theorem c22_2_s (hw : Cur w) : W Try.prog 9 V22 c22_2 Q e w = (opsW (nx Try.prog) mv gdP 9 V22 o22_3 (fun e w => Q .ret e w) o22_3.toList [] e e w) := by rw [(by kernel_rfl : c22_2 = .seq (.region 3 o22_3 false) Code.ret), W_seq_reg]; simp only [W_ret, W_skip, W_exit, W_label]
theorem o22_1_eq : opsW N M G 9 V22 o22_1 k o22_1.toList [] e e w =
    (M (e 0) fun t3 =>
    N (xv (xbin BinOp.eql 24 (Operand.tmp 3) (Operand.const (Value.pointer none)) t3 (Value.pointer none))) w fun t4 w =>
    k (Env.p e 4 t4) w) := nr (by kernel_rfl)
theorem o22_2_eq : opsW N M G 9 V22 o22_2 k o22_2.toList [] e e w =
    (M (Value.int IntKind.i64 0) fun t2 =>
    k (Env.p e 2 t2) w) := nr (by kernel_rfl)
theorem c22_5_s (hw : Cur w) : W Try.prog 9 V22 c22_5 Q e w = (opsW (nx Try.prog) mv gdP 9 V22 o22_2 (fun e w => Q .ret e w) o22_2.toList [] e e w) := by rw [(by kernel_rfl : c22_5 = .seq (.region 2 o22_2 false) Code.ret), W_seq_reg]; simp only [W_ret, W_skip, W_exit, W_label]
theorem c22_4_v : opV V22 (.tmp 4) = true := by kernel_rfl
theorem c22_4_s (hw : Cur w) : W Try.prog 9 V22 c22_4 Q e w = (condP (ev e (.tmp 4)) (W Try.prog 9 V22 c22_5 Q e w) (Q .normal e w)) := by rw [(by kernel_rfl : c22_4 = .cond (.tmp 4) c22_5 Code.skip), W_cond, c22_4_v, cond_true]; simp only [W_ret, W_skip, W_exit, W_label]
theorem c22_3_s (hw : Cur w) : W Try.prog 9 V22 c22_3 Q e w = (opsW (nx Try.prog) mv gdP 9 V22 o22_1 (fun e w => W Try.prog 9 V22 c22_4 Q e w) o22_1.toList [] e e w) := by rw [(by kernel_rfl : c22_3 = .seq (.region 1 o22_1 false) c22_4), W_seq_reg]
theorem c22_1_s (hw : Cur w) : W Try.prog 9 V22 c22_1 Q e w = (W Try.prog 9 V22 c22_3 (seqQ (fun e w => W Try.prog 9 V22 c22_2 Q e w) Q) e w) := by rw [(by kernel_rfl : c22_1 = .seq c22_3 c22_2), W_seq]
theorem c22_s (hw : Cur w) : W Try.prog 9 V22 c22 Q e w = (opsW (nx Try.prog) mv gdP 9 V22 o22_0 (fun e w => W Try.prog 9 V22 c22_1 Q e w) o22_0.toList [] e e w) := by rw [(by kernel_rfl : c22 = .seq (.region 0 o22_0 false) c22_1), W_seq_reg]
theorem call22 {a0 : Value} {w : World} {R : Value → World → Prop} (h : W Try.prog 9 V22 c22 (retQ Try.prog [.tmp 2] R) (argE [a0]) w) : CallsN Try.prog 22 [a0] w R :=
  callsN_of_W (c := c22) (rs := [.tmp 2]) V22 Try.ntmps22 (by rw [Try.results22]) mixed Try.func22 (by kernel_rfl) (by kernel_rfl) (by kernel_rfl) (by kernel_rfl) (by simp) h
noncomputable def hk22 := And.intro (@o22_0_eq) <| And.intro (@o22_3_eq) <| And.intro (@c22_2_s) <| And.intro (@o22_1_eq) <| And.intro (@o22_2_eq) <| And.intro (@c22_5_s) <| And.intro (@c22_4_s) <| And.intro (@c22_3_s) <| And.intro (@c22_1_s) <| @c22_s
-- K22: ↓hk22
/-! ### vouch/vouchlaw05.put -/
def V23 : Nat → Bool := fun i => [0, 1, 4].elem i
noncomputable def c23 : Code := (Try.f23.body.getD .skip)
noncomputable def o23_0 : Array Oper := rO (cL c23)
noncomputable def c23_1 : Code := (cR c23)
noncomputable def o23_1 : Array Oper := rO (cL c23_1)
theorem o23_0_eq : opsW N M G 9 V23 o23_0 k o23_0.toList [] e e w =
    (N (xv (Instr.alloc 44 true (.tuple #[]))) w fun t4 w =>
    k (Env.p e 4 t4) w) := nr (by kernel_rfl)
theorem o23_1_eq : opsW N M G 9 V23 o23_1 k o23_1.toList [] e e w =
    (M (e 0) fun t5 =>
    M (e 1) fun t6 =>
    N (xv (Instr.build 29 ([(0, (Value.bool true)), (1, t6)]).toArray)) w fun t7 w =>
    N (xv (Instr.build 44 ([(0, t5), (1, t7)]).toArray)) w fun t8 w =>
    N (xu (Instr.storeAt 44 (e 4) t8)) w fun _ w =>
    k e w) := nr (by kernel_rfl)
theorem c23_1_s (hw : Cur w) : W Try.prog 9 V23 c23_1 Q e w = (opsW (nx Try.prog) mv gdP 9 V23 o23_1 (fun e w => Q .ret e w) o23_1.toList [] e e w) := by rw [(by kernel_rfl : c23_1 = .seq (.region 1 o23_1 false) Code.ret), W_seq_reg]; simp only [W_ret, W_skip, W_exit, W_label]
theorem c23_s (hw : Cur w) : W Try.prog 9 V23 c23 Q e w = (opsW (nx Try.prog) mv gdP 9 V23 o23_0 (fun e w => W Try.prog 9 V23 c23_1 Q e w) o23_0.toList [] e e w) := by rw [(by kernel_rfl : c23 = .seq (.region 0 o23_0 false) c23_1), W_seq_reg]
theorem call23 {a0 a1 : Value} {w : World} {R : Value → World → Prop} (h : W Try.prog 9 V23 c23 (retQ Try.prog [.cell 4 44] R) (argE [a0, a1]) w) : CallsN Try.prog 23 [a0, a1] w R :=
  callsN_of_W (c := c23) (rs := [.cell 4 44]) V23 Try.ntmps23 (by rw [Try.results23]) mixed Try.func23 (by kernel_rfl) (by kernel_rfl) (by kernel_rfl) (by kernel_rfl) (by simp) h
noncomputable def hk23 := And.intro (@o23_0_eq) <| And.intro (@o23_1_eq) <| And.intro (@c23_1_s) <| @c23_s
-- K23: ↓hk23
/-! ### vouch/store.goodKey -/
def V53 : Nat → Bool := fun i => [0, 2].elem i
noncomputable def c53 : Code := (Try.f53.body.getD .skip)
noncomputable def o53_0 : Array Oper := rO (cL c53)
noncomputable def c53_1 : Code := (cR c53)
noncomputable def o53_1 : Array Oper := rO (cL c53_1)
theorem o53_0_eq : opsW N M G 11 V53 o53_0 k o53_0.toList [] e e w =
    (M (Value.bool false) fun t2 =>
    k (Env.p e 2 t2) w) := nr (by kernel_rfl)
theorem o53_1_eq : opsW N M G 11 V53 o53_1 k o53_1.toList [] e e w =
    (M (e 0) fun t3 =>
    N (builtin Builtin.len #[9] 3 ([false]).toArray ([t3]).toArray) w fun t4 w =>
    N (xv (xbin BinOp.geq 3 (Operand.tmp 4) (Operand.const (Value.int IntKind.i64 1)) t4 (Value.int IntKind.i64 1))) w fun t5 w =>
    M t5 fun t6 =>
    G (isB t6 true) (fun K => M (e 0) fun v => K v w) (fun t7 w =>
    G (isB t6 true) (fun K => N (builtin Builtin.len #[9] 3 ([false]).toArray ([t7]).toArray) w K) (fun t8 w =>
    G (isB t6 true) (fun K => N (xv (xbin BinOp.leq 3 (Operand.tmp 8) (Operand.const (Value.int IntKind.i64 32)) t8 (Value.int IntKind.i64 32))) w K) (fun t9 w =>
    N (xpick t6 t9 (Value.bool false)) w fun t10 w =>
    M t10 fun t2 =>
    k (Env.p e 2 t2) w) w) w) w) := nr (by kernel_rfl)
theorem c53_1_s (hw : Cur w) : W Try.prog 11 V53 c53_1 Q e w = (opsW (nx Try.prog) mv gdP 11 V53 o53_1 (fun e w => Q .ret e w) o53_1.toList [] e e w) := by rw [(by kernel_rfl : c53_1 = .seq (.region 1 o53_1 false) Code.ret), W_seq_reg]; simp only [W_ret, W_skip, W_exit, W_label]
theorem c53_s (hw : Cur w) : W Try.prog 11 V53 c53 Q e w = (opsW (nx Try.prog) mv gdP 11 V53 o53_0 (fun e w => W Try.prog 11 V53 c53_1 Q e w) o53_0.toList [] e e w) := by rw [(by kernel_rfl : c53 = .seq (.region 0 o53_0 false) c53_1), W_seq_reg]
theorem call53 {a0 : Value} {w : World} {R : Value → World → Prop} (h : W Try.prog 11 V53 c53 (retQ Try.prog [.tmp 2] R) (argE [a0]) w) : CallsN Try.prog 53 [a0] w R :=
  callsN_of_W (c := c53) (rs := [.tmp 2]) V53 Try.ntmps53 (by rw [Try.results53]) mixed Try.func53 (by kernel_rfl) (by kernel_rfl) (by kernel_rfl) (by kernel_rfl) (by simp) h
noncomputable def hk53 := And.intro (@o53_0_eq) <| And.intro (@o53_1_eq) <| And.intro (@c53_1_s) <| @c53_s
-- K53: ↓hk53
/-! ### sort.Search -/
def V54 : Nat → Bool := fun i => [0, 1, 4, 5, 6, 7, 11, 21].elem i
noncomputable def c54 : Code := (Try.f54.body.getD .skip)
noncomputable def o54_0 : Array Oper := rO (cL c54)
noncomputable def c54_1 : Code := (cR c54)
noncomputable def o54_1 : Array Oper := rO (cL c54_1)
noncomputable def c54_2 : Code := (cR c54_1)
noncomputable def c54_3 : Code := (cR c54_2)
noncomputable def o54_7 : Array Oper := rO (cL c54_3)
noncomputable def c54_4 : Code := (cL c54_2)
noncomputable def c54_5 : Code := (cL c54_4)
noncomputable def c54_6 : Code := (cL c54_5)
noncomputable def c54_7 : Code := (cR c54_6)
noncomputable def c54_8 : Code := (cL c54_7)
noncomputable def o54_3 : Array Oper := rO (cL c54_8)
noncomputable def c54_9 : Code := (cR c54_8)
noncomputable def o54_4 : Array Oper := rO (cL c54_9)
noncomputable def c54_10 : Code := (cR c54_9)
noncomputable def c54_11 : Code := (cL c54_10)
noncomputable def o54_5 : Array Oper := rO c54_11
noncomputable def c54_12 : Code := (cR c54_10)
noncomputable def o54_6 : Array Oper := rO c54_12
noncomputable def c54_13 : Code := (cL c54_6)
noncomputable def o54_2 : Array Oper := rO (cL c54_13)
noncomputable def c54_14 : Code := (cR c54_13)
theorem o54_0_eq : opsW N M G 26 V54 o54_0 k o54_0.toList [] e e w =
    (M (Value.int IntKind.i64 0) fun t4 =>
    k (Env.p e 4 t4) w) := nr (by kernel_rfl)
theorem o54_1_eq : opsW N M G 26 V54 o54_1 k o54_1.toList [] e e w =
    (M (e 0) fun t8 =>
    M (Value.int IntKind.i64 0) fun t5 =>
    M t8 fun t6 =>
    k (Env.p (Env.p e 5 t5) 6 t6) w) := nr (by kernel_rfl)
theorem o54_7_eq : opsW N M G 26 V54 o54_7 k o54_7.toList [] e e w =
    (M (e 5) fun t25 =>
    M t25 fun t4 =>
    k (Env.p e 4 t4) w) := nr (by kernel_rfl)
theorem c54_3_s (hw : Cur w) : W Try.prog 26 V54 c54_3 Q e w = (opsW (nx Try.prog) mv gdP 26 V54 o54_7 (fun e w => Q .ret e w) o54_7.toList [] e e w) := by rw [(by kernel_rfl : c54_3 = .seq (.region 7 o54_7 false) Code.ret), W_seq_reg]; simp only [W_ret, W_skip, W_exit, W_label]
theorem o54_3_eq : opsW N M G 26 V54 o54_3 k o54_3.toList [] e e w =
    (M (e 5) fun t12 =>
    M (e 6) fun t13 =>
    N (xv (xbin BinOp.add 3 (Operand.tmp 12) (Operand.tmp 13) t12 t13)) w fun t14 w =>
    N (xv (convert 3 158 t14)) w fun t15 w =>
    N (xv (xbin BinOp.shr 158 (Operand.tmp 15) (Operand.const (Value.int IntKind.u64 1)) t15 (Value.int IntKind.u64 1))) w fun t16 w =>
    N (xv (convert 158 3 t16)) w fun t17 w =>
    M t17 fun t7 =>
    k (Env.p e 7 t7) w) := nr (by kernel_rfl)
theorem o54_4_eq : opsW N M G 26 V54 o54_4 k o54_4.toList [] e e w =
    (M (e 1) fun t18 =>
    M (e 7) fun t19 =>
    N (xcall t18 [t19]) w fun t20 w =>
    N (xv (Op.unary UnOp.not t20)) w fun t21 w =>
    k (Env.p e 21 t21) w) := nr (by kernel_rfl)
theorem o54_5_eq : opsW N M G 26 V54 o54_5 k o54_5.toList [] e e w =
    (M (e 7) fun t22 =>
    N (xv (xbin BinOp.add 3 (Operand.tmp 22) (Operand.const (Value.int IntKind.i64 1)) t22 (Value.int IntKind.i64 1))) w fun t23 w =>
    M t23 fun t5 =>
    k (Env.p e 5 t5) w) := nr (by kernel_rfl)
theorem c54_11_s (hw : Cur w) : W Try.prog 26 V54 c54_11 Q e w = (opsW (nx Try.prog) mv gdP 26 V54 o54_5 (fun e w => Q .normal e w) o54_5.toList [] e e w) := by rw [(by kernel_rfl : c54_11 = (.region 5 o54_5 false)), W_reg]
theorem o54_6_eq : opsW N M G 26 V54 o54_6 k o54_6.toList [] e e w =
    (M (e 7) fun t24 =>
    M t24 fun t6 =>
    k (Env.p e 6 t6) w) := nr (by kernel_rfl)
theorem c54_12_s (hw : Cur w) : W Try.prog 26 V54 c54_12 Q e w = (opsW (nx Try.prog) mv gdP 26 V54 o54_6 (fun e w => Q .normal e w) o54_6.toList [] e e w) := by rw [(by kernel_rfl : c54_12 = (.region 6 o54_6 false)), W_reg]
theorem c54_10_v : opV V54 (.tmp 21) = true := by kernel_rfl
theorem c54_10_s (hw : Cur w) : W Try.prog 26 V54 c54_10 Q e w = (condP (ev e (.tmp 21)) (W Try.prog 26 V54 c54_11 Q e w) (W Try.prog 26 V54 c54_12 Q e w)) := by rw [(by kernel_rfl : c54_10 = .cond (.tmp 21) c54_11 c54_12), W_cond, c54_10_v, cond_true]
theorem c54_9_s (hw : Cur w) : W Try.prog 26 V54 c54_9 Q e w = (opsW (nx Try.prog) mv gdP 26 V54 o54_4 (fun e w => W Try.prog 26 V54 c54_10 Q e w) o54_4.toList [] e e w) := by rw [(by kernel_rfl : c54_9 = .seq (.region 4 o54_4 false) c54_10), W_seq_reg]
theorem c54_8_s (hw : Cur w) : W Try.prog 26 V54 c54_8 Q e w = (opsW (nx Try.prog) mv gdP 26 V54 o54_3 (fun e w => W Try.prog 26 V54 c54_9 Q e w) o54_3.toList [] e e w) := by rw [(by kernel_rfl : c54_8 = .seq (.region 3 o54_3 false) c54_9), W_seq_reg]
theorem c54_7_s (hw : Cur w) : W Try.prog 26 V54 c54_7 Q e w = (W Try.prog 26 V54 c54_8 (blockQ 1 Q) e w) := by rw [(by kernel_rfl : c54_7 = .block 1 c54_8), W_block]
theorem o54_2_eq : opsW N M G 26 V54 o54_2 k o54_2.toList [] e e w =
    (M (e 5) fun t9 =>
    M (e 6) fun t10 =>
    N (xv (xbin BinOp.lss 3 (Operand.tmp 9) (Operand.tmp 10) t9 t10)) w fun t11 w =>
    k (Env.p e 11 t11) w) := nr (by kernel_rfl)
theorem c54_14_v : opV V54 (.tmp 11) = true := by kernel_rfl
theorem c54_14_s (hw : Cur w) : W Try.prog 26 V54 c54_14 Q e w = (condP (ev e (.tmp 11)) (Q .normal e w) (Q (.exit 0) e w)) := by rw [(by kernel_rfl : c54_14 = .cond (.tmp 11) Code.skip (Code.exit 0)), W_cond, c54_14_v, cond_true]; simp only [W_ret, W_skip, W_exit, W_label]
theorem c54_13_s (hw : Cur w) : W Try.prog 26 V54 c54_13 Q e w = (opsW (nx Try.prog) mv gdP 26 V54 o54_2 (fun e w => W Try.prog 26 V54 c54_14 Q e w) o54_2.toList [] e e w) := by rw [(by kernel_rfl : c54_13 = .seq (.region 2 o54_2 false) c54_14), W_seq_reg]
theorem c54_6_s (hw : Cur w) : W Try.prog 26 V54 c54_6 Q e w = (W Try.prog 26 V54 c54_13 (seqQ (fun e w => W Try.prog 26 V54 c54_7 Q e w) Q) e w) := by rw [(by kernel_rfl : c54_6 = .seq c54_13 c54_7), W_seq]
theorem c54_5_s (hw : Cur w) : W Try.prog 26 V54 c54_5 Q e w = (LoopP (fun e w k => W Try.prog 26 V54 c54_6 (seqQ k Q) e w) e w) := by rw [(by kernel_rfl : c54_5 = .loop c54_6), W_loop]
theorem c54_4_s (hw : Cur w) : W Try.prog 26 V54 c54_4 Q e w = (W Try.prog 26 V54 c54_5 (blockQ 0 Q) e w) := by rw [(by kernel_rfl : c54_4 = .block 0 c54_5), W_block]
theorem c54_2_s (hw : Cur w) : W Try.prog 26 V54 c54_2 Q e w = (W Try.prog 26 V54 c54_4 (seqQ (fun e w => W Try.prog 26 V54 c54_3 Q e w) Q) e w) := by rw [(by kernel_rfl : c54_2 = .seq c54_4 c54_3), W_seq]
theorem c54_1_s (hw : Cur w) : W Try.prog 26 V54 c54_1 Q e w = (opsW (nx Try.prog) mv gdP 26 V54 o54_1 (fun e w => W Try.prog 26 V54 c54_2 Q e w) o54_1.toList [] e e w) := by rw [(by kernel_rfl : c54_1 = .seq (.region 1 o54_1 false) c54_2), W_seq_reg]
theorem c54_s (hw : Cur w) : W Try.prog 26 V54 c54 Q e w = (opsW (nx Try.prog) mv gdP 26 V54 o54_0 (fun e w => W Try.prog 26 V54 c54_1 Q e w) o54_0.toList [] e e w) := by rw [(by kernel_rfl : c54 = .seq (.region 0 o54_0 false) c54_1), W_seq_reg]
theorem call54 {a0 a1 : Value} {w : World} {R : Value → World → Prop} (h : W Try.prog 26 V54 c54 (retQ Try.prog [.tmp 4] R) (argE [a0, a1]) w) : CallsN Try.prog 54 [a0, a1] w R :=
  callsN_of_W (c := c54) (rs := [.tmp 4]) V54 Try.ntmps54 (by rw [Try.results54]) mixed Try.func54 (by kernel_rfl) (by kernel_rfl) (by kernel_rfl) (by kernel_rfl) (by simp) h
noncomputable def hk54 := And.intro (@o54_0_eq) <| And.intro (@o54_1_eq) <| And.intro (@o54_7_eq) <| And.intro (@c54_3_s) <| And.intro (@o54_3_eq) <| And.intro (@o54_4_eq) <| And.intro (@o54_5_eq) <| And.intro (@c54_11_s) <| And.intro (@o54_6_eq) <| And.intro (@c54_12_s) <| And.intro (@c54_10_s) <| And.intro (@c54_9_s) <| And.intro (@c54_8_s) <| And.intro (@c54_7_s) <| And.intro (@o54_2_eq) <| And.intro (@c54_14_s) <| And.intro (@c54_13_s) <| And.intro (@c54_6_s) <| And.intro (@c54_5_s) <| And.intro (@c54_4_s) <| And.intro (@c54_2_s) <| And.intro (@c54_1_s) <| @c54_s
-- K54: ↓hk54
/-! ### (*vouch/store.Store) . Read$1 -/
def V55 : Nat → Bool := fun i => [0, 1, 2, 4].elem i
noncomputable def c55 : Code := (Try.f55.body.getD .skip)
noncomputable def o55_0 : Array Oper := rO (cL c55)
noncomputable def c55_1 : Code := (cR c55)
noncomputable def o55_1 : Array Oper := rO (cL c55_1)
theorem o55_0_eq : opsW N M G 12 V55 o55_0 k o55_0.toList [] e e w =
    (M (Value.bool false) fun t4 =>
    k (Env.p e 4 t4) w) := nr (by kernel_rfl)
theorem o55_1_eq : drawGo N T M G H 12 V55 o55_1 S k o55_1.size true (Array.replicate o55_1.size false) [] e e w =
    (T (xv (Instr.loadAt 46 (e 1))) fun t5 =>
    M (e 0) fun t6 =>
    T (xv (Instr.indexAt 46 t5 t6)) fun t7 =>
    T (xv (Instr.fieldAt 106 t7 0)) fun t8 =>
    T (xv (Instr.loadAt 2 t8)) fun t9 =>
    T (xv (Instr.loadAt 2 (e 2))) fun t10 =>
    T (xv (xbin BinOp.gtr 2 (Operand.tmp 9) (Operand.tmp 10) t9 t10)) fun t11 =>
    M t11 fun t4 =>
    k (Env.p e 4 t4) w) := nr (by kernel_rfl)
theorem c55_1_s (hw : Cur w) : W Try.prog 12 V55 c55_1 Q e w = (∃ S : World → Prop, S w.drew ∧ drawGo (nx Try.prog) (takeP Try.prog S) mv gdP gdT 12 V55 o55_1 S (fun e w => Q .ret e w) o55_1.size true (Array.replicate o55_1.size false) [] e e w.drew) := by rw [(by kernel_rfl : c55_1 = .seq (.region 1 o55_1 true) Code.ret), W_seq_regD]; simp only [W_ret, W_skip, W_exit, W_label]
theorem c55_s (hw : Cur w) : W Try.prog 12 V55 c55 Q e w = (opsW (nx Try.prog) mv gdP 12 V55 o55_0 (fun e w => W Try.prog 12 V55 c55_1 Q e w) o55_0.toList [] e e w) := by rw [(by kernel_rfl : c55 = .seq (.region 0 o55_0 false) c55_1), W_seq_reg]
theorem call55 {a0 a1 a2 : Value} {w : World} {R : Value → World → Prop} (h : W Try.prog 12 V55 c55 (retQ Try.prog [.tmp 4] R) (argE [a0, a1, a2]) w) : CallsN Try.prog 55 [a0, a1, a2] w R :=
  callsN_of_W (c := c55) (rs := [.tmp 4]) V55 Try.ntmps55 (by rw [Try.results55]) mixed Try.func55 (by kernel_rfl) (by kernel_rfl) (by kernel_rfl) (by kernel_rfl) (by simp) h
noncomputable def hk55 := And.intro (@o55_0_eq) <| And.intro (@o55_1_eq) <| And.intro (@c55_1_s) <| @c55_s
-- K55: ↓hk55
/-! ### vouch/store.check -/
def V56 : Nat → Bool := fun i => [0, 2, 3, 4, 5, 6, 8, 16, 18, 19, 20, 21, 27, 44].elem i
noncomputable def c56 : Code := (Try.f56.body.getD .skip)
noncomputable def o56_0 : Array Oper := rO (cL c56)
noncomputable def c56_1 : Code := (cR c56)
noncomputable def c56_2 : Code := (cR c56_1)
noncomputable def o56_3 : Array Oper := rO (cL c56_2)
noncomputable def c56_3 : Code := (cR c56_2)
noncomputable def o56_4 : Array Oper := rO (cL c56_3)
noncomputable def c56_4 : Code := (cR c56_3)
noncomputable def c56_5 : Code := (cR c56_4)
noncomputable def c56_6 : Code := (cR c56_5)
noncomputable def o56_16 : Array Oper := rO (cL c56_6)
noncomputable def c56_7 : Code := (cL c56_5)
noncomputable def o56_14 : Array Oper := rO (cL c56_7)
noncomputable def c56_8 : Code := (cR c56_7)
noncomputable def c56_9 : Code := (cL c56_8)
noncomputable def o56_15 : Array Oper := rO (cL c56_9)
noncomputable def c56_10 : Code := (cL c56_4)
noncomputable def o56_5 : Array Oper := rO (cL c56_10)
noncomputable def c56_11 : Code := (cR c56_10)
noncomputable def c56_12 : Code := (cL c56_11)
noncomputable def c56_13 : Code := (cL c56_12)
noncomputable def o56_6 : Array Oper := rO (cL c56_13)
noncomputable def c56_14 : Code := (cR c56_13)
noncomputable def c56_15 : Code := (cR c56_14)
noncomputable def c56_16 : Code := (cR c56_15)
noncomputable def o56_13 : Array Oper := rO c56_16
noncomputable def c56_17 : Code := (cL c56_15)
noncomputable def c56_18 : Code := (cL c56_17)
noncomputable def o56_7 : Array Oper := rO (cL c56_18)
noncomputable def c56_19 : Code := (cR c56_18)
noncomputable def c56_20 : Code := (cR c56_19)
noncomputable def o56_10 : Array Oper := rO (cL c56_20)
noncomputable def c56_21 : Code := (cR c56_20)
noncomputable def o56_11 : Array Oper := rO (cL c56_21)
noncomputable def c56_22 : Code := (cR c56_21)
noncomputable def o56_12 : Array Oper := rO c56_22
noncomputable def c56_23 : Code := (cL c56_19)
noncomputable def o56_8 : Array Oper := rO (cL c56_23)
noncomputable def c56_24 : Code := (cR c56_23)
noncomputable def c56_25 : Code := (cL c56_24)
noncomputable def o56_9 : Array Oper := rO (cL c56_25)
noncomputable def c56_26 : Code := (cL c56_14)
noncomputable def c56_27 : Code := (cL c56_1)
noncomputable def o56_1 : Array Oper := rO (cL c56_27)
noncomputable def c56_28 : Code := (cR c56_27)
noncomputable def c56_29 : Code := (cL c56_28)
noncomputable def o56_2 : Array Oper := rO (cL c56_29)
theorem o56_0_eq : opsW N M G 45 V56 o56_0 k o56_0.toList [] e e w =
    (M (Value.int IntKind.i64 0) fun t2 =>
    k (Env.p e 2 t2) w) := nr (by kernel_rfl)
theorem o56_3_eq : opsW N M G 45 V56 o56_3 k o56_3.toList [] e e w =
    (N (xv (Instr.makeMap 159 none)) w fun t17 w =>
    M t17 fun t3 =>
    k (Env.p e 3 t3) w) := nr (by kernel_rfl)
theorem o56_4_eq : opsW N M G 45 V56 o56_4 k o56_4.toList [] e e w =
    (M (Value.bool false) fun t4 =>
    k (Env.p e 4 t4) w) := nr (by kernel_rfl)
theorem o56_16_eq : opsW N M G 45 V56 o56_16 k o56_16.toList [] e e w =
    (M (Value.int IntKind.i64 0) fun t2 =>
    k (Env.p e 2 t2) w) := nr (by kernel_rfl)
theorem c56_6_s (hw : Cur w) : W Try.prog 45 V56 c56_6 Q e w = (opsW (nx Try.prog) mv gdP 45 V56 o56_16 (fun e w => Q .ret e w) o56_16.toList [] e e w) := by rw [(by kernel_rfl : c56_6 = .seq (.region 16 o56_16 false) Code.ret), W_seq_reg]; simp only [W_ret, W_skip, W_exit, W_label]
theorem o56_14_eq : opsW N M G 45 V56 o56_14 k o56_14.toList [] e e w =
    (M (e 4) fun t44 =>
    k (Env.p e 44 t44) w) := nr (by kernel_rfl)
theorem o56_15_eq : opsW N M G 45 V56 o56_15 k o56_15.toList [] e e w =
    (M (Value.int IntKind.i64 22) fun t2 =>
    k (Env.p e 2 t2) w) := nr (by kernel_rfl)
theorem c56_9_s (hw : Cur w) : W Try.prog 45 V56 c56_9 Q e w = (opsW (nx Try.prog) mv gdP 45 V56 o56_15 (fun e w => Q .ret e w) o56_15.toList [] e e w) := by rw [(by kernel_rfl : c56_9 = .seq (.region 15 o56_15 false) Code.ret), W_seq_reg]; simp only [W_ret, W_skip, W_exit, W_label]
theorem c56_8_v : opV V56 (.tmp 44) = true := by kernel_rfl
theorem c56_8_s (hw : Cur w) : W Try.prog 45 V56 c56_8 Q e w = (condP (ev e (.tmp 44)) (W Try.prog 45 V56 c56_9 Q e w) (Q .normal e w)) := by rw [(by kernel_rfl : c56_8 = .cond (.tmp 44) c56_9 Code.skip), W_cond, c56_8_v, cond_true]; simp only [W_ret, W_skip, W_exit, W_label]
theorem c56_7_s (hw : Cur w) : W Try.prog 45 V56 c56_7 Q e w = (opsW (nx Try.prog) mv gdP 45 V56 o56_14 (fun e w => W Try.prog 45 V56 c56_8 Q e w) o56_14.toList [] e e w) := by rw [(by kernel_rfl : c56_7 = .seq (.region 14 o56_14 false) c56_8), W_seq_reg]
theorem c56_5_s (hw : Cur w) : W Try.prog 45 V56 c56_5 Q e w = (W Try.prog 45 V56 c56_7 (seqQ (fun e w => W Try.prog 45 V56 c56_6 Q e w) Q) e w) := by rw [(by kernel_rfl : c56_5 = .seq c56_7 c56_6), W_seq]
theorem o56_5_eq : opsW N M G 45 V56 o56_5 k o56_5.toList [] e e w =
    (M (e 0) fun t18 =>
    N (builtin Builtin.len #[40] 3 ([false]).toArray ([t18]).toArray) w fun t19 w =>
    M (Value.int IntKind.i64 0) fun t20 =>
    k (Env.p (Env.p (Env.p e 18 t18) 19 t19) 20 t20) w) := nr (by kernel_rfl)
theorem o56_6_eq : opsW N M G 45 V56 o56_6 k o56_6.toList [] e e w =
    (N (xv (xbin BinOp.lss 3 (Operand.tmp 20) (Operand.tmp 19) (e 20) (e 19))) w fun t21 w =>
    k (Env.p e 21 t21) w) := nr (by kernel_rfl)
theorem o56_13_eq : opsW N M G 45 V56 o56_13 k o56_13.toList [] e e w =
    (N (xv (xbin BinOp.add 3 (Operand.tmp 20) (Operand.const (Value.int IntKind.i64 1)) (e 20) (Value.int IntKind.i64 1))) w fun t43 w =>
    M t43 fun t20 =>
    k (Env.p e 20 t20) w) := nr (by kernel_rfl)
theorem c56_16_s (hw : Cur w) : W Try.prog 45 V56 c56_16 Q e w = (opsW (nx Try.prog) mv gdP 45 V56 o56_13 (fun e w => Q .normal e w) o56_13.toList [] e e w) := by rw [(by kernel_rfl : c56_16 = (.region 13 o56_13 false)), W_reg]
theorem o56_7_eq : opsW N M G 45 V56 o56_7 k o56_7.toList [] e e w =
    (M (e 20) fun t22 =>
    N (xv (Instr.indexAt 40 (e 18) (e 20))) w fun t23 w =>
    N (xv (Instr.loadAt 44 t23)) w fun t24 w =>
    N (xv (Instr.alloc 44 true (.tuple #[]))) w fun t6 w =>
    M t22 fun t5 =>
    N (xu (Instr.storeAt 44 t6 t24)) w fun _ w =>
    k (Env.p (Env.p e 6 t6) 5 t5) w) := nr (by kernel_rfl)
theorem o56_10_eq : opsW N M G 45 V56 o56_10 k o56_10.toList [] e e w =
    (M (e 3) fun t29 =>
    N (xv (Instr.fieldAt 44 (e 6) 0)) w fun t30 w =>
    N (xv (Instr.loadAt 9 t30)) w fun t31 w =>
    N (xv (Instr.lookup 159 t29 t31 true)) w fun t32 w =>
    M t32 fun t28 =>
    N (xv (Instr.extract t28 0)) w fun t33 w =>
    N (xv (Instr.extract t28 1)) w fun t34 w =>
    M t33 fun t7 =>
    M t34 fun t8 =>
    k (Env.p e 8 t8) w) := nr (by kernel_rfl)
theorem o56_11_eq : opsW N M G 45 V56 o56_11 k o56_11.toList [] e e w =
    (M (e 4) fun t35 =>
    M t35 fun t36 =>
    G (isB t36 false) (fun K => M (e 8) fun v => K v w) (fun t37 w =>
    N (xpick t36 (Value.bool true) t37) w fun t38 w =>
    M t38 fun t4 =>
    k (Env.p e 4 t4) w) w) := nr (by kernel_rfl)
theorem o56_12_eq : opsW N M G 45 V56 o56_12 k o56_12.toList [] e e w =
    (M (e 3) fun t39 =>
    N (xv (Instr.fieldAt 44 (e 6) 0)) w fun t40 w =>
    N (xv (Instr.loadAt 9 t40)) w fun t41 w =>
    M (e 5) fun t42 =>
    N (xu (Instr.mapUpdate 159 t39 t41 t42)) w fun _ w =>
    k e w) := nr (by kernel_rfl)
theorem c56_22_s (hw : Cur w) : W Try.prog 45 V56 c56_22 Q e w = (opsW (nx Try.prog) mv gdP 45 V56 o56_12 (fun e w => Q .normal e w) o56_12.toList [] e e w) := by rw [(by kernel_rfl : c56_22 = (.region 12 o56_12 false)), W_reg]
theorem c56_21_s (hw : Cur w) : W Try.prog 45 V56 c56_21 Q e w = (opsW (nx Try.prog) mv gdP 45 V56 o56_11 (fun e w => W Try.prog 45 V56 c56_22 Q e w) o56_11.toList [] e e w) := by rw [(by kernel_rfl : c56_21 = .seq (.region 11 o56_11 false) c56_22), W_seq_reg]
theorem c56_20_s (hw : Cur w) : W Try.prog 45 V56 c56_20 Q e w = (opsW (nx Try.prog) mv gdP 45 V56 o56_10 (fun e w => W Try.prog 45 V56 c56_21 Q e w) o56_10.toList [] e e w) := by rw [(by kernel_rfl : c56_20 = .seq (.region 10 o56_10 false) c56_21), W_seq_reg]
theorem o56_8_eq : opsW N M G 45 V56 o56_8 k o56_8.toList [] e e w =
    (N (xv (Instr.loadAt 44 (e 6))) w fun t25 w =>
    N (xcall (Value.func (Fn.func 84) #[] #[]) [t25]) w fun t26 w =>
    N (xv (Op.unary UnOp.not t26)) w fun t27 w =>
    k (Env.p e 27 t27) w) := nr (by kernel_rfl)
theorem o56_9_eq : opsW N M G 45 V56 o56_9 k o56_9.toList [] e e w =
    (M (Value.int IntKind.i64 1) fun t2 =>
    k (Env.p e 2 t2) w) := nr (by kernel_rfl)
theorem c56_25_s (hw : Cur w) : W Try.prog 45 V56 c56_25 Q e w = (opsW (nx Try.prog) mv gdP 45 V56 o56_9 (fun e w => Q .ret e w) o56_9.toList [] e e w) := by rw [(by kernel_rfl : c56_25 = .seq (.region 9 o56_9 false) Code.ret), W_seq_reg]; simp only [W_ret, W_skip, W_exit, W_label]
theorem c56_24_v : opV V56 (.tmp 27) = true := by kernel_rfl
theorem c56_24_s (hw : Cur w) : W Try.prog 45 V56 c56_24 Q e w = (condP (ev e (.tmp 27)) (W Try.prog 45 V56 c56_25 Q e w) (Q .normal e w)) := by rw [(by kernel_rfl : c56_24 = .cond (.tmp 27) c56_25 Code.skip), W_cond, c56_24_v, cond_true]; simp only [W_ret, W_skip, W_exit, W_label]
theorem c56_23_s (hw : Cur w) : W Try.prog 45 V56 c56_23 Q e w = (opsW (nx Try.prog) mv gdP 45 V56 o56_8 (fun e w => W Try.prog 45 V56 c56_24 Q e w) o56_8.toList [] e e w) := by rw [(by kernel_rfl : c56_23 = .seq (.region 8 o56_8 false) c56_24), W_seq_reg]
theorem c56_19_s (hw : Cur w) : W Try.prog 45 V56 c56_19 Q e w = (W Try.prog 45 V56 c56_23 (seqQ (fun e w => W Try.prog 45 V56 c56_20 Q e w) Q) e w) := by rw [(by kernel_rfl : c56_19 = .seq c56_23 c56_20), W_seq]
theorem c56_18_s (hw : Cur w) : W Try.prog 45 V56 c56_18 Q e w = (opsW (nx Try.prog) mv gdP 45 V56 o56_7 (fun e w => W Try.prog 45 V56 c56_19 Q e w) o56_7.toList [] e e w) := by rw [(by kernel_rfl : c56_18 = .seq (.region 7 o56_7 false) c56_19), W_seq_reg]
theorem c56_17_s (hw : Cur w) : W Try.prog 45 V56 c56_17 Q e w = (W Try.prog 45 V56 c56_18 (blockQ 1 Q) e w) := by rw [(by kernel_rfl : c56_17 = .block 1 c56_18), W_block]
theorem c56_15_s (hw : Cur w) : W Try.prog 45 V56 c56_15 Q e w = (W Try.prog 45 V56 c56_17 (seqQ (fun e w => W Try.prog 45 V56 c56_16 Q e w) Q) e w) := by rw [(by kernel_rfl : c56_15 = .seq c56_17 c56_16), W_seq]
theorem c56_26_v : opV V56 (.tmp 21) = true := by kernel_rfl
theorem c56_26_s (hw : Cur w) : W Try.prog 45 V56 c56_26 Q e w = (condP (ev e (.tmp 21)) (Q .normal e w) (Q (.exit 0) e w)) := by rw [(by kernel_rfl : c56_26 = .cond (.tmp 21) Code.skip (Code.exit 0)), W_cond, c56_26_v, cond_true]; simp only [W_ret, W_skip, W_exit, W_label]
theorem c56_14_s (hw : Cur w) : W Try.prog 45 V56 c56_14 Q e w = (W Try.prog 45 V56 c56_26 (seqQ (fun e w => W Try.prog 45 V56 c56_15 Q e w) Q) e w) := by rw [(by kernel_rfl : c56_14 = .seq c56_26 c56_15), W_seq]
theorem c56_13_s (hw : Cur w) : W Try.prog 45 V56 c56_13 Q e w = (opsW (nx Try.prog) mv gdP 45 V56 o56_6 (fun e w => W Try.prog 45 V56 c56_14 Q e w) o56_6.toList [] e e w) := by rw [(by kernel_rfl : c56_13 = .seq (.region 6 o56_6 false) c56_14), W_seq_reg]
theorem c56_12_s (hw : Cur w) : W Try.prog 45 V56 c56_12 Q e w = (LoopP (fun e w k => W Try.prog 45 V56 c56_13 (seqQ k Q) e w) e w) := by rw [(by kernel_rfl : c56_12 = .loop c56_13), W_loop]
theorem c56_11_s (hw : Cur w) : W Try.prog 45 V56 c56_11 Q e w = (W Try.prog 45 V56 c56_12 (blockQ 0 Q) e w) := by rw [(by kernel_rfl : c56_11 = .block 0 c56_12), W_block]
theorem c56_10_s (hw : Cur w) : W Try.prog 45 V56 c56_10 Q e w = (opsW (nx Try.prog) mv gdP 45 V56 o56_5 (fun e w => W Try.prog 45 V56 c56_11 Q e w) o56_5.toList [] e e w) := by rw [(by kernel_rfl : c56_10 = .seq (.region 5 o56_5 false) c56_11), W_seq_reg]
theorem c56_4_s (hw : Cur w) : W Try.prog 45 V56 c56_4 Q e w = (W Try.prog 45 V56 c56_10 (seqQ (fun e w => W Try.prog 45 V56 c56_5 Q e w) Q) e w) := by rw [(by kernel_rfl : c56_4 = .seq c56_10 c56_5), W_seq]
theorem c56_3_s (hw : Cur w) : W Try.prog 45 V56 c56_3 Q e w = (opsW (nx Try.prog) mv gdP 45 V56 o56_4 (fun e w => W Try.prog 45 V56 c56_4 Q e w) o56_4.toList [] e e w) := by rw [(by kernel_rfl : c56_3 = .seq (.region 4 o56_4 false) c56_4), W_seq_reg]
theorem c56_2_s (hw : Cur w) : W Try.prog 45 V56 c56_2 Q e w = (opsW (nx Try.prog) mv gdP 45 V56 o56_3 (fun e w => W Try.prog 45 V56 c56_3 Q e w) o56_3.toList [] e e w) := by rw [(by kernel_rfl : c56_2 = .seq (.region 3 o56_3 false) c56_3), W_seq_reg]
theorem o56_1_eq : opsW N M G 45 V56 o56_1 k o56_1.toList [] e e w =
    (M (e 0) fun t9 =>
    N (builtin Builtin.len #[40] 3 ([false]).toArray ([t9]).toArray) w fun t10 w =>
    N (xv (xbin BinOp.eql 3 (Operand.tmp 10) (Operand.const (Value.int IntKind.i64 0)) t10 (Value.int IntKind.i64 0))) w fun t11 w =>
    M t11 fun t12 =>
    G (isB t12 false) (fun K => M (e 0) fun v => K v w) (fun t13 w =>
    G (isB t12 false) (fun K => N (builtin Builtin.len #[40] 3 ([false]).toArray ([t13]).toArray) w K) (fun t14 w =>
    G (isB t12 false) (fun K => N (xv (xbin BinOp.gtr 3 (Operand.tmp 14) (Operand.const (Value.int IntKind.i64 8)) t14 (Value.int IntKind.i64 8))) w K) (fun t15 w =>
    N (xpick t12 (Value.bool true) t15) w fun t16 w =>
    k (Env.p e 16 t16) w) w) w) w) := nr (by kernel_rfl)
theorem o56_2_eq : opsW N M G 45 V56 o56_2 k o56_2.toList [] e e w =
    (M (Value.int IntKind.i64 1) fun t2 =>
    k (Env.p e 2 t2) w) := nr (by kernel_rfl)
theorem c56_29_s (hw : Cur w) : W Try.prog 45 V56 c56_29 Q e w = (opsW (nx Try.prog) mv gdP 45 V56 o56_2 (fun e w => Q .ret e w) o56_2.toList [] e e w) := by rw [(by kernel_rfl : c56_29 = .seq (.region 2 o56_2 false) Code.ret), W_seq_reg]; simp only [W_ret, W_skip, W_exit, W_label]
theorem c56_28_v : opV V56 (.tmp 16) = true := by kernel_rfl
theorem c56_28_s (hw : Cur w) : W Try.prog 45 V56 c56_28 Q e w = (condP (ev e (.tmp 16)) (W Try.prog 45 V56 c56_29 Q e w) (Q .normal e w)) := by rw [(by kernel_rfl : c56_28 = .cond (.tmp 16) c56_29 Code.skip), W_cond, c56_28_v, cond_true]; simp only [W_ret, W_skip, W_exit, W_label]
theorem c56_27_s (hw : Cur w) : W Try.prog 45 V56 c56_27 Q e w = (opsW (nx Try.prog) mv gdP 45 V56 o56_1 (fun e w => W Try.prog 45 V56 c56_28 Q e w) o56_1.toList [] e e w) := by rw [(by kernel_rfl : c56_27 = .seq (.region 1 o56_1 false) c56_28), W_seq_reg]
theorem c56_1_s (hw : Cur w) : W Try.prog 45 V56 c56_1 Q e w = (W Try.prog 45 V56 c56_27 (seqQ (fun e w => W Try.prog 45 V56 c56_2 Q e w) Q) e w) := by rw [(by kernel_rfl : c56_1 = .seq c56_27 c56_2), W_seq]
theorem c56_s (hw : Cur w) : W Try.prog 45 V56 c56 Q e w = (opsW (nx Try.prog) mv gdP 45 V56 o56_0 (fun e w => W Try.prog 45 V56 c56_1 Q e w) o56_0.toList [] e e w) := by rw [(by kernel_rfl : c56 = .seq (.region 0 o56_0 false) c56_1), W_seq_reg]
theorem call56 {a0 : Value} {w : World} {R : Value → World → Prop} (h : W Try.prog 45 V56 c56 (retQ Try.prog [.tmp 2] R) (argE [a0]) w) : CallsN Try.prog 56 [a0] w R :=
  callsN_of_W (c := c56) (rs := [.tmp 2]) V56 Try.ntmps56 (by rw [Try.results56]) mixed Try.func56 (by kernel_rfl) (by kernel_rfl) (by kernel_rfl) (by kernel_rfl) (by simp) h
noncomputable def hk56 := And.intro (@o56_0_eq) <| And.intro (@o56_3_eq) <| And.intro (@o56_4_eq) <| And.intro (@o56_16_eq) <| And.intro (@c56_6_s) <| And.intro (@o56_14_eq) <| And.intro (@o56_15_eq) <| And.intro (@c56_9_s) <| And.intro (@c56_8_s) <| And.intro (@c56_7_s) <| And.intro (@c56_5_s) <| And.intro (@o56_5_eq) <| And.intro (@o56_6_eq) <| And.intro (@o56_13_eq) <| And.intro (@c56_16_s) <| And.intro (@o56_7_eq) <| And.intro (@o56_10_eq) <| And.intro (@o56_11_eq) <| And.intro (@o56_12_eq) <| And.intro (@c56_22_s) <| And.intro (@c56_21_s) <| And.intro (@c56_20_s) <| And.intro (@o56_8_eq) <| And.intro (@o56_9_eq) <| And.intro (@c56_25_s) <| And.intro (@c56_24_s) <| And.intro (@c56_23_s) <| And.intro (@c56_19_s) <| And.intro (@c56_18_s) <| And.intro (@c56_17_s) <| And.intro (@c56_15_s) <| And.intro (@c56_26_s) <| And.intro (@c56_14_s) <| And.intro (@c56_13_s) <| And.intro (@c56_12_s) <| And.intro (@c56_11_s) <| And.intro (@c56_10_s) <| And.intro (@c56_4_s) <| And.intro (@c56_3_s) <| And.intro (@c56_2_s) <| And.intro (@o56_1_eq) <| And.intro (@o56_2_eq) <| And.intro (@c56_29_s) <| And.intro (@c56_28_s) <| And.intro (@c56_27_s) <| And.intro (@c56_1_s) <| @c56_s
-- K56: ↓hk56
/-! ### slices.Clone[[]vouch/api.Version,vouch/api.Version] -/
def V57 : Nat → Bool := fun i => [0, 2, 4].elem i
noncomputable def c57 : Code := (Try.f57.body.getD .skip)
noncomputable def o57_0 : Array Oper := rO (cL c57)
noncomputable def c57_1 : Code := (cR c57)
noncomputable def c57_2 : Code := (cR c57_1)
noncomputable def o57_3 : Array Oper := rO (cL c57_2)
noncomputable def c57_3 : Code := (cL c57_1)
noncomputable def o57_1 : Array Oper := rO (cL c57_3)
noncomputable def c57_4 : Code := (cR c57_3)
noncomputable def c57_5 : Code := (cL c57_4)
noncomputable def o57_2 : Array Oper := rO (cL c57_5)
theorem o57_0_eq : opsW N M G 8 V57 o57_0 k o57_0.toList [] e e w =
    (M (Value.slice none 0 0) fun t2 =>
    k (Env.p e 2 t2) w) := nr (by kernel_rfl)
theorem o57_3_eq : opsW N M G 8 V57 o57_3 k o57_3.toList [] e e w =
    (N (xv (Instr.buildSlice 46 0 ([]).toArray)) w fun t5 w =>
    M (e 0) fun t6 =>
    N (builtin Builtin.append #[46, 46] 46 ([false, false]).toArray ([t5, t6]).toArray) w fun t7 w =>
    M t7 fun t2 =>
    k (Env.p e 2 t2) w) := nr (by kernel_rfl)
theorem c57_2_s (hw : Cur w) : W Try.prog 8 V57 c57_2 Q e w = (opsW (nx Try.prog) mv gdP 8 V57 o57_3 (fun e w => Q .ret e w) o57_3.toList [] e e w) := by rw [(by kernel_rfl : c57_2 = .seq (.region 3 o57_3 false) Code.ret), W_seq_reg]; simp only [W_ret, W_skip, W_exit, W_label]
theorem o57_1_eq : opsW N M G 8 V57 o57_1 k o57_1.toList [] e e w =
    (M (e 0) fun t3 =>
    N (xv (xbin BinOp.eql 46 (Operand.tmp 3) (Operand.const (Value.slice none 0 0)) t3 (Value.slice none 0 0))) w fun t4 w =>
    k (Env.p e 4 t4) w) := nr (by kernel_rfl)
theorem o57_2_eq : opsW N M G 8 V57 o57_2 k o57_2.toList [] e e w =
    (M (Value.slice none 0 0) fun t2 =>
    k (Env.p e 2 t2) w) := nr (by kernel_rfl)
theorem c57_5_s (hw : Cur w) : W Try.prog 8 V57 c57_5 Q e w = (opsW (nx Try.prog) mv gdP 8 V57 o57_2 (fun e w => Q .ret e w) o57_2.toList [] e e w) := by rw [(by kernel_rfl : c57_5 = .seq (.region 2 o57_2 false) Code.ret), W_seq_reg]; simp only [W_ret, W_skip, W_exit, W_label]
theorem c57_4_v : opV V57 (.tmp 4) = true := by kernel_rfl
theorem c57_4_s (hw : Cur w) : W Try.prog 8 V57 c57_4 Q e w = (condP (ev e (.tmp 4)) (W Try.prog 8 V57 c57_5 Q e w) (Q .normal e w)) := by rw [(by kernel_rfl : c57_4 = .cond (.tmp 4) c57_5 Code.skip), W_cond, c57_4_v, cond_true]; simp only [W_ret, W_skip, W_exit, W_label]
theorem c57_3_s (hw : Cur w) : W Try.prog 8 V57 c57_3 Q e w = (opsW (nx Try.prog) mv gdP 8 V57 o57_1 (fun e w => W Try.prog 8 V57 c57_4 Q e w) o57_1.toList [] e e w) := by rw [(by kernel_rfl : c57_3 = .seq (.region 1 o57_1 false) c57_4), W_seq_reg]
theorem c57_1_s (hw : Cur w) : W Try.prog 8 V57 c57_1 Q e w = (W Try.prog 8 V57 c57_3 (seqQ (fun e w => W Try.prog 8 V57 c57_2 Q e w) Q) e w) := by rw [(by kernel_rfl : c57_1 = .seq c57_3 c57_2), W_seq]
theorem c57_s (hw : Cur w) : W Try.prog 8 V57 c57 Q e w = (opsW (nx Try.prog) mv gdP 8 V57 o57_0 (fun e w => W Try.prog 8 V57 c57_1 Q e w) o57_0.toList [] e e w) := by rw [(by kernel_rfl : c57 = .seq (.region 0 o57_0 false) c57_1), W_seq_reg]
theorem call57 {a0 : Value} {w : World} {R : Value → World → Prop} (h : W Try.prog 8 V57 c57 (retQ Try.prog [.tmp 2] R) (argE [a0]) w) : CallsN Try.prog 57 [a0] w R :=
  callsN_of_W (c := c57) (rs := [.tmp 2]) V57 Try.ntmps57 (by rw [Try.results57]) mixed Try.func57 (by kernel_rfl) (by kernel_rfl) (by kernel_rfl) (by kernel_rfl) (by simp) h
noncomputable def hk57 := And.intro (@o57_0_eq) <| And.intro (@o57_3_eq) <| And.intro (@c57_2_s) <| And.intro (@o57_1_eq) <| And.intro (@o57_2_eq) <| And.intro (@c57_5_s) <| And.intro (@c57_4_s) <| And.intro (@c57_3_s) <| And.intro (@c57_1_s) <| @c57_s
-- K57: ↓hk57
/-! ### vouch/store.goodWrite -/
def V84 : Nat → Bool := fun i => [0, 1, 2].elem i
noncomputable def c84 : Code := (Try.f84.body.getD .skip)
noncomputable def o84_0 : Array Oper := rO (cL c84)
noncomputable def c84_1 : Code := (cR c84)
noncomputable def o84_1 : Array Oper := rO (cL c84_1)
theorem o84_0_eq : opsW N M G 24 V84 o84_0 k o84_0.toList [] e e w =
    (N (xv (Instr.box 44 (e 0))) w fun t1 w =>
    M (Value.bool false) fun t2 =>
    k (Env.p (Env.p e 1 t1) 2 t2) w) := nr (by kernel_rfl)
theorem o84_1_eq : opsW N M G 24 V84 o84_1 k o84_1.toList [] e e w =
    (N (xv (Instr.fieldAt 44 (e 1) 0)) w fun t3 w =>
    N (xv (Instr.loadAt 9 t3)) w fun t4 w =>
    N (xcall (Value.func (Fn.func 53) #[] #[]) [t4]) w fun t5 w =>
    M t5 fun t6 =>
    G (isB t6 true) (fun K => N (xv (Instr.fieldAt 44 (e 1) 1)) w K) (fun t7 w =>
    G (isB t6 true) (fun K => N (xv (Instr.fieldAt 29 t7 1)) w K) (fun t8 w =>
    G (isB t6 true) (fun K => N (xv (Instr.loadAt 9 t8)) w K) (fun t9 w =>
    G (isB t6 true) (fun K => N (builtin Builtin.len #[9] 3 ([false]).toArray ([t9]).toArray) w K) (fun t10 w =>
    G (isB t6 true) (fun K => N (xv (xbin BinOp.leq 3 (Operand.tmp 10) (Operand.const (Value.int IntKind.i64 256)) t10 (Value.int IntKind.i64 256))) w K) (fun t11 w =>
    N (xpick t6 t11 (Value.bool false)) w fun t12 w =>
    M t12 fun t13 =>
    G (isB t13 true) (fun K => N (xv (Instr.fieldAt 44 (e 1) 1)) w K) (fun t14 w =>
    G (isB t13 true) (fun K => N (xv (Instr.fieldAt 29 t14 0)) w K) (fun t15 w =>
    G (isB t13 true) (fun K => N (xv (Instr.loadAt 4 t15)) w K) (fun t16 w =>
    G (isB t13 true) (fun K => M t16 fun v => K v w) (fun t17 w =>
    G (isB t17 false) (fun K => N (xv (Instr.fieldAt 44 (e 1) 1)) w K) (fun t18 w =>
    G (isB t17 false) (fun K => N (xv (Instr.fieldAt 29 t18 1)) w K) (fun t19 w =>
    G (isB t17 false) (fun K => N (xv (Instr.loadAt 9 t19)) w K) (fun t20 w =>
    G (isB t17 false) (fun K => N (xv (xbin BinOp.eql 9 (Operand.tmp 20) (Operand.const (Value.string ⟨#[]⟩)) t20 (Value.string ⟨#[]⟩))) w K) (fun t21 w =>
    G (isB t13 true) (fun K => N (xpick t17 (Value.bool true) t21) w K) (fun t22 w =>
    N (xpick t13 t22 (Value.bool false)) w fun t23 w =>
    M t23 fun t2 =>
    k (Env.p e 2 t2) w) w) w) w) w) w) w) w) w) w) w) w) w) w) w) := nr (by kernel_rfl)
theorem c84_1_s (hw : Cur w) : W Try.prog 24 V84 c84_1 Q e w = (opsW (nx Try.prog) mv gdP 24 V84 o84_1 (fun e w => Q .ret e w) o84_1.toList [] e e w) := by rw [(by kernel_rfl : c84_1 = .seq (.region 1 o84_1 false) Code.ret), W_seq_reg]; simp only [W_ret, W_skip, W_exit, W_label]
theorem c84_s (hw : Cur w) : W Try.prog 24 V84 c84 Q e w = (opsW (nx Try.prog) mv gdP 24 V84 o84_0 (fun e w => W Try.prog 24 V84 c84_1 Q e w) o84_0.toList [] e e w) := by rw [(by kernel_rfl : c84 = .seq (.region 0 o84_0 false) c84_1), W_seq_reg]
theorem call84 {a0 : Value} {w : World} {R : Value → World → Prop} (h : W Try.prog 24 V84 c84 (retQ Try.prog [.tmp 2] R) (argE [a0]) w) : CallsN Try.prog 84 [a0] w R :=
  callsN_of_W (c := c84) (rs := [.tmp 2]) V84 Try.ntmps84 (by rw [Try.results84]) mixed Try.func84 (by kernel_rfl) (by kernel_rfl) (by kernel_rfl) (by kernel_rfl) (by simp) h
noncomputable def hk84 := And.intro (@o84_0_eq) <| And.intro (@o84_1_eq) <| And.intro (@c84_1_s) <| @c84_s
-- K84: ↓hk84
/-! ### vouch/vouchlaw05.StoreSound -/
def V3 : Nat → Bool := fun i => [0, 1, 2, 3, 8, 9, 10, 11, 12, 13, 14, 16, 26, 35, 90, 102, 111].elem i
noncomputable def c3 : Code := (Try.f3.body.getD .skip)
noncomputable def o3_0 : Array Oper := rO (cL c3)
noncomputable def c3_1 : Code := (cR c3)
noncomputable def c3_2 : Code := (cR c3_1)
noncomputable def o3_3 : Array Oper := rO (cL c3_2)
noncomputable def c3_3 : Code := (cR c3_2)
noncomputable def o3_4 : Array Oper := rO (cL c3_3)
noncomputable def c3_4 : Code := (cR c3_3)
noncomputable def c3_5 : Code := (cR c3_4)
noncomputable def o3_7 : Array Oper := rO (cL c3_5)
noncomputable def c3_6 : Code := (cR c3_5)
noncomputable def c3_7 : Code := (cR c3_6)
noncomputable def c3_8 : Code := (cR c3_7)
noncomputable def c3_9 : Code := (cR c3_8)
noncomputable def o3_17 : Array Oper := rO (cL c3_9)
noncomputable def c3_10 : Code := (cL c3_8)
noncomputable def o3_12 : Array Oper := rO (cL c3_10)
noncomputable def c3_11 : Code := (cR c3_10)
noncomputable def c3_12 : Code := (cL c3_11)
noncomputable def c3_13 : Code := (cL c3_12)
noncomputable def c3_14 : Code := (cR c3_13)
noncomputable def c3_15 : Code := (cR c3_14)
noncomputable def o3_14 : Array Oper := rO c3_15
noncomputable def c3_16 : Code := (cL c3_14)
noncomputable def c3_17 : Code := (cL c3_16)
noncomputable def o3_15 : Array Oper := rO (cL c3_17)
noncomputable def c3_18 : Code := (cR c3_17)
noncomputable def c3_19 : Code := (cL c3_18)
noncomputable def o3_16 : Array Oper := rO (cL c3_19)
noncomputable def c3_20 : Code := (cL c3_13)
noncomputable def o3_13 : Array Oper := rO (cL c3_20)
noncomputable def c3_21 : Code := (cR c3_20)
noncomputable def c3_22 : Code := (cL c3_7)
noncomputable def o3_10 : Array Oper := rO (cL c3_22)
noncomputable def c3_23 : Code := (cR c3_22)
noncomputable def c3_24 : Code := (cL c3_23)
noncomputable def o3_11 : Array Oper := rO (cL c3_24)
noncomputable def c3_25 : Code := (cL c3_6)
noncomputable def o3_8 : Array Oper := rO (cL c3_25)
noncomputable def c3_26 : Code := (cR c3_25)
noncomputable def c3_27 : Code := (cL c3_26)
noncomputable def o3_9 : Array Oper := rO (cL c3_27)
noncomputable def c3_28 : Code := (cL c3_4)
noncomputable def o3_5 : Array Oper := rO (cL c3_28)
noncomputable def c3_29 : Code := (cR c3_28)
noncomputable def c3_30 : Code := (cL c3_29)
noncomputable def o3_6 : Array Oper := rO (cL c3_30)
noncomputable def c3_31 : Code := (cL c3_1)
noncomputable def o3_1 : Array Oper := rO (cL c3_31)
noncomputable def c3_32 : Code := (cR c3_31)
noncomputable def c3_33 : Code := (cL c3_32)
noncomputable def o3_2 : Array Oper := rO (cL c3_33)
theorem o3_0_eq : opsW N M G 122 V3 o3_0 k o3_0.toList [] e e w =
    (M (Value.bool false) fun t8 =>
    k (Env.p e 8 t8) w) := nr (by kernel_rfl)
theorem o3_3_eq : opsW N M G 122 V3 o3_3 k o3_3.toList [] e e w =
    (M (e 0) fun t17 =>
    N (xcall (Value.func (Fn.func 16) #[] #[]) [t17]) w fun t18 w =>
    M t18 fun t9 =>
    k (Env.p e 9 t9) w) := nr (by kernel_rfl)
theorem o3_4_eq : opsW N M G 122 V3 o3_4 k o3_4.toList [] e e w =
    (M (e 9) fun t20 =>
    M (e 1) fun t21 =>
    N (xcall (Value.func (Fn.func 17) #[] #[]) [t20, t21]) w fun t22 w =>
    M t22 fun t19 =>
    N (xv (Instr.extract t19 0)) w fun t23 w =>
    N (xv (Instr.extract t19 1)) w fun t24 w =>
    M t23 fun t10 =>
    M t24 fun t11 =>
    k (Env.p (Env.p e 10 t10) 11 t11) w) := nr (by kernel_rfl)
theorem o3_7_eq : opsW N M G 122 V3 o3_7 k o3_7.toList [] e e w =
    (M (e 9) fun t28 =>
    M (e 2) fun t29 =>
    M (e 3) fun t30 =>
    N (xcall (Value.func (Fn.func 18) #[] #[]) [t28, t29, t30]) w fun t31 w =>
    M t31 fun t27 =>
    N (xv (Instr.extract t27 0)) w fun t32 w =>
    N (xv (Instr.extract t27 1)) w fun t33 w =>
    N (xv (Instr.alloc 31 true (.tuple #[]))) w fun t12 w =>
    N (xu (Instr.storeAt 31 t12 t32)) w fun _ w =>
    M t33 fun t13 =>
    k (Env.p (Env.p e 12 t12) 13 t13) w) := nr (by kernel_rfl)
theorem o3_17_eq : opsW N M G 122 V3 o3_17 k o3_17.toList [] e e w =
    (N (xv (Instr.fieldAt 31 (e 12) 3)) w fun t112 w =>
    N (xv (Instr.loadAt 2 t112)) w fun t113 w =>
    N (xv (xbin BinOp.eql 2 (Operand.tmp 113) (Operand.const (Value.int IntKind.i64 4611686018427387904)) t113 (Value.int IntKind.i64 4611686018427387904))) w fun t114 w =>
    M t114 fun t115 =>
    G (isB t115 false) (fun K => N (xv (Instr.fieldAt 31 (e 12) 3)) w K) (fun t116 w =>
    G (isB t115 false) (fun K => N (xv (Instr.loadAt 2 t116)) w K) (fun t117 w =>
    G (isB t115 false) (fun K => M (e 10) fun v => K v w) (fun t118 w =>
    G (isB t115 false) (fun K => N (builtin Builtin.len #[22] 3 ([false]).toArray ([t118]).toArray) w K) (fun t119 w =>
    G (isB t115 false) (fun K => N (xv (xbin BinOp.leq 2 (Operand.tmp 117) (Operand.tmp 119) t117 t119)) w K) (fun t120 w =>
    N (xpick t115 (Value.bool true) t120) w fun t121 w =>
    M t121 fun t8 =>
    k (Env.p e 8 t8) w) w) w) w) w) w) := nr (by kernel_rfl)
theorem c3_9_s (hw : Cur w) : W Try.prog 122 V3 c3_9 Q e w = (opsW (nx Try.prog) mv gdP 122 V3 o3_17 (fun e w => Q .ret e w) o3_17.toList [] e e w) := by rw [(by kernel_rfl : c3_9 = .seq (.region 17 o3_17 false) Code.ret), W_seq_reg]; simp only [W_ret, W_skip, W_exit, W_label]
theorem o3_12_eq : opsW N M G 122 V3 o3_12 k o3_12.toList [] e e w =
    (N (xv (Instr.fieldAt 31 (e 12) 2)) w fun t91 w =>
    N (xv (Instr.loadAt 2 t91)) w fun t92 w =>
    M t92 fun t14 =>
    k (Env.p e 14 t14) w) := nr (by kernel_rfl)
theorem o3_14_eq : opsW N M G 122 V3 o3_14 k o3_14.toList [] e e w =
    (M (e 14) fun t103 =>
    N (xv (xbin BinOp.add 2 (Operand.tmp 103) (Operand.const (Value.int IntKind.i64 1)) t103 (Value.int IntKind.i64 1))) w fun t104 w =>
    M t104 fun t14 =>
    k (Env.p e 14 t14) w) := nr (by kernel_rfl)
theorem c3_15_s (hw : Cur w) : W Try.prog 122 V3 c3_15 Q e w = (opsW (nx Try.prog) mv gdP 122 V3 o3_14 (fun e w => Q .normal e w) o3_14.toList [] e e w) := by rw [(by kernel_rfl : c3_15 = (.region 14 o3_14 false)), W_reg]
theorem o3_15_eq : drawGo N T M G H 122 V3 o3_15 S k o3_15.size true (Array.replicate o3_15.size false) [] e e w =
    (M (e 10) fun t105 =>
    M (e 2) fun t106 =>
    M (e 14) fun t107 =>
    T (xv (Instr.fieldAt 31 (e 12) 1)) fun t109 =>
    T (xv (Instr.loadAt 29 t109)) fun t110 =>
    N (xcall (Value.func (Fn.func 20) #[] #[]) [t105, t106, t107]) w fun t108 w =>
    S w ∧ (T (xv (xbin BinOp.neq 29 (Operand.tmp 108) (Operand.tmp 110) t108 t110)) fun t111 =>
    k (Env.p e 111 t111) w)) := nr (by kernel_rfl)
theorem o3_16_eq : opsW N M G 122 V3 o3_16 k o3_16.toList [] e e w =
    (M (Value.bool false) fun t8 =>
    k (Env.p e 8 t8) w) := nr (by kernel_rfl)
theorem c3_19_s (hw : Cur w) : W Try.prog 122 V3 c3_19 Q e w = (opsW (nx Try.prog) mv gdP 122 V3 o3_16 (fun e w => Q .ret e w) o3_16.toList [] e e w) := by rw [(by kernel_rfl : c3_19 = .seq (.region 16 o3_16 false) Code.ret), W_seq_reg]; simp only [W_ret, W_skip, W_exit, W_label]
theorem c3_18_v : opV V3 (.tmp 111) = true := by kernel_rfl
theorem c3_18_s (hw : Cur w) : W Try.prog 122 V3 c3_18 Q e w = (condP (ev e (.tmp 111)) (W Try.prog 122 V3 c3_19 Q e w) (Q .normal e w)) := by rw [(by kernel_rfl : c3_18 = .cond (.tmp 111) c3_19 Code.skip), W_cond, c3_18_v, cond_true]; simp only [W_ret, W_skip, W_exit, W_label]
theorem c3_17_s (hw : Cur w) : W Try.prog 122 V3 c3_17 Q e w = (∃ S : World → Prop, S w.drew ∧ drawGo (nx Try.prog) (takeP Try.prog S) mv gdP gdT 122 V3 o3_15 S (fun e w => W Try.prog 122 V3 c3_18 Q e w) o3_15.size true (Array.replicate o3_15.size false) [] e e w.drew) := by rw [(by kernel_rfl : c3_17 = .seq (.region 15 o3_15 true) c3_18), W_seq_regD]
theorem c3_16_s (hw : Cur w) : W Try.prog 122 V3 c3_16 Q e w = (W Try.prog 122 V3 c3_17 (blockQ 1 Q) e w) := by rw [(by kernel_rfl : c3_16 = .block 1 c3_17), W_block]
theorem c3_14_s (hw : Cur w) : W Try.prog 122 V3 c3_14 Q e w = (W Try.prog 122 V3 c3_16 (seqQ (fun e w => W Try.prog 122 V3 c3_15 Q e w) Q) e w) := by rw [(by kernel_rfl : c3_14 = .seq c3_16 c3_15), W_seq]
theorem o3_13_eq : opsW N M G 122 V3 o3_13 k o3_13.toList [] e e w =
    (M (e 14) fun t93 =>
    N (xv (Instr.fieldAt 31 (e 12) 3)) w fun t94 w =>
    N (xv (Instr.loadAt 2 t94)) w fun t95 w =>
    N (xv (xbin BinOp.lss 2 (Operand.tmp 93) (Operand.tmp 95) t93 t95)) w fun t96 w =>
    M t96 fun t97 =>
    G (isB t97 true) (fun K => M (e 14) fun v => K v w) (fun t98 w =>
    G (isB t97 true) (fun K => M (e 10) fun v => K v w) (fun t99 w =>
    G (isB t97 true) (fun K => N (builtin Builtin.len #[22] 3 ([false]).toArray ([t99]).toArray) w K) (fun t100 w =>
    G (isB t97 true) (fun K => N (xv (xbin BinOp.leq 2 (Operand.tmp 98) (Operand.tmp 100) t98 t100)) w K) (fun t101 w =>
    N (xpick t97 t101 (Value.bool false)) w fun t102 w =>
    k (Env.p e 102 t102) w) w) w) w) w) := nr (by kernel_rfl)
theorem c3_21_v : opV V3 (.tmp 102) = true := by kernel_rfl
theorem c3_21_s (hw : Cur w) : W Try.prog 122 V3 c3_21 Q e w = (condP (ev e (.tmp 102)) (Q .normal e w) (Q (.exit 0) e w)) := by rw [(by kernel_rfl : c3_21 = .cond (.tmp 102) Code.skip (Code.exit 0)), W_cond, c3_21_v, cond_true]; simp only [W_ret, W_skip, W_exit, W_label]
theorem c3_20_s (hw : Cur w) : W Try.prog 122 V3 c3_20 Q e w = (opsW (nx Try.prog) mv gdP 122 V3 o3_13 (fun e w => W Try.prog 122 V3 c3_21 Q e w) o3_13.toList [] e e w) := by rw [(by kernel_rfl : c3_20 = .seq (.region 13 o3_13 false) c3_21), W_seq_reg]
theorem c3_13_s (hw : Cur w) : W Try.prog 122 V3 c3_13 Q e w = (W Try.prog 122 V3 c3_20 (seqQ (fun e w => W Try.prog 122 V3 c3_14 Q e w) Q) e w) := by rw [(by kernel_rfl : c3_13 = .seq c3_20 c3_14), W_seq]
theorem c3_12_s (hw : Cur w) : W Try.prog 122 V3 c3_12 Q e w = (LoopP (fun e w k => W Try.prog 122 V3 c3_13 (seqQ k Q) e w) e w) := by rw [(by kernel_rfl : c3_12 = .loop c3_13), W_loop]
theorem c3_11_s (hw : Cur w) : W Try.prog 122 V3 c3_11 Q e w = (W Try.prog 122 V3 c3_12 (blockQ 0 Q) e w) := by rw [(by kernel_rfl : c3_11 = .block 0 c3_12), W_block]
theorem c3_10_s (hw : Cur w) : W Try.prog 122 V3 c3_10 Q e w = (opsW (nx Try.prog) mv gdP 122 V3 o3_12 (fun e w => W Try.prog 122 V3 c3_11 Q e w) o3_12.toList [] e e w) := by rw [(by kernel_rfl : c3_10 = .seq (.region 12 o3_12 false) c3_11), W_seq_reg]
theorem c3_8_s (hw : Cur w) : W Try.prog 122 V3 c3_8 Q e w = (W Try.prog 122 V3 c3_10 (seqQ (fun e w => W Try.prog 122 V3 c3_9 Q e w) Q) e w) := by rw [(by kernel_rfl : c3_8 = .seq c3_10 c3_9), W_seq]
theorem o3_10_eq : opsW N M G 122 V3 o3_10 k o3_10.toList [] e e w =
    (N (xv (Instr.fieldAt 31 (e 12) 0)) w fun t70 w =>
    N (xv (Instr.loadAt 9 t70)) w fun t71 w =>
    M (e 2) fun t72 =>
    N (xv (xbin BinOp.neq 9 (Operand.tmp 71) (Operand.tmp 72) t71 t72)) w fun t73 w =>
    M t73 fun t74 =>
    G (isB t74 false) (fun K => N (xv (Instr.fieldAt 31 (e 12) 2)) w K) (fun t75 w =>
    G (isB t74 false) (fun K => N (xv (Instr.loadAt 2 t75)) w K) (fun t76 w =>
    G (isB t74 false) (fun K => N (xv (xbin BinOp.lss 2 (Operand.tmp 76) (Operand.const (Value.int IntKind.i64 0)) t76 (Value.int IntKind.i64 0))) w K) (fun t77 w =>
    N (xpick t74 (Value.bool true) t77) w fun t78 w =>
    M t78 fun t79 =>
    G (isB t79 false) (fun K => N (xv (Instr.fieldAt 31 (e 12) 2)) w K) (fun t80 w =>
    G (isB t79 false) (fun K => N (xv (Instr.loadAt 2 t80)) w K) (fun t81 w =>
    G (isB t79 false) (fun K => M (e 3) fun v => K v w) (fun t82 w =>
    G (isB t79 false) (fun K => N (xv (xbin BinOp.gtr 2 (Operand.tmp 81) (Operand.tmp 82) t81 t82)) w K) (fun t83 w =>
    N (xpick t79 (Value.bool true) t83) w fun t84 w =>
    M t84 fun t85 =>
    G (isB t85 false) (fun K => N (xv (Instr.fieldAt 31 (e 12) 3)) w K) (fun t86 w =>
    G (isB t85 false) (fun K => N (xv (Instr.loadAt 2 t86)) w K) (fun t87 w =>
    G (isB t85 false) (fun K => M (e 3) fun v => K v w) (fun t88 w =>
    G (isB t85 false) (fun K => N (xv (xbin BinOp.leq 2 (Operand.tmp 87) (Operand.tmp 88) t87 t88)) w K) (fun t89 w =>
    N (xpick t85 (Value.bool true) t89) w fun t90 w =>
    k (Env.p e 90 t90) w) w) w) w) w) w) w) w) w) w) w) w) := nr (by kernel_rfl)
theorem o3_11_eq : opsW N M G 122 V3 o3_11 k o3_11.toList [] e e w =
    (M (Value.bool false) fun t8 =>
    k (Env.p e 8 t8) w) := nr (by kernel_rfl)
theorem c3_24_s (hw : Cur w) : W Try.prog 122 V3 c3_24 Q e w = (opsW (nx Try.prog) mv gdP 122 V3 o3_11 (fun e w => Q .ret e w) o3_11.toList [] e e w) := by rw [(by kernel_rfl : c3_24 = .seq (.region 11 o3_11 false) Code.ret), W_seq_reg]; simp only [W_ret, W_skip, W_exit, W_label]
theorem c3_23_v : opV V3 (.tmp 90) = true := by kernel_rfl
theorem c3_23_s (hw : Cur w) : W Try.prog 122 V3 c3_23 Q e w = (condP (ev e (.tmp 90)) (W Try.prog 122 V3 c3_24 Q e w) (Q .normal e w)) := by rw [(by kernel_rfl : c3_23 = .cond (.tmp 90) c3_24 Code.skip), W_cond, c3_23_v, cond_true]; simp only [W_ret, W_skip, W_exit, W_label]
theorem c3_22_s (hw : Cur w) : W Try.prog 122 V3 c3_22 Q e w = (opsW (nx Try.prog) mv gdP 122 V3 o3_10 (fun e w => W Try.prog 122 V3 c3_23 Q e w) o3_10.toList [] e e w) := by rw [(by kernel_rfl : c3_22 = .seq (.region 10 o3_10 false) c3_23), W_seq_reg]
theorem c3_7_s (hw : Cur w) : W Try.prog 122 V3 c3_7 Q e w = (W Try.prog 122 V3 c3_22 (seqQ (fun e w => W Try.prog 122 V3 c3_8 Q e w) Q) e w) := by rw [(by kernel_rfl : c3_7 = .seq c3_22 c3_8), W_seq]
theorem o3_8_eq : opsW N M G 122 V3 o3_8 k o3_8.toList [] e e w =
    (M (e 13) fun t34 =>
    N (xv (xbin BinOp.neq 32 (Operand.tmp 34) (Operand.const (Value.int IntKind.i64 0)) t34 (Value.int IntKind.i64 0))) w fun t35 w =>
    k (Env.p e 35 t35) w) := nr (by kernel_rfl)
theorem o3_9_eq : opsW N M G 122 V3 o3_9 k o3_9.toList [] e e w =
    (N (xv (Instr.loadAt 31 (e 12))) w fun t36 w =>
    N (xv (Instr.build 31 ([]).toArray)) w fun t37 w =>
    N (xv (xbin BinOp.eql 31 (Operand.tmp 36) (Operand.tmp 37) t36 t37)) w fun t38 w =>
    M t38 fun t39 =>
    G (isB t39 true) (fun K => M (e 3) fun v => K v w) (fun t40 w =>
    G (isB t39 true) (fun K => N (xv (xbin BinOp.lss 2 (Operand.tmp 40) (Operand.const (Value.int IntKind.i64 0)) t40 (Value.int IntKind.i64 0))) w K) (fun t41 w =>
    G (isB t39 true) (fun K => M t41 fun v => K v w) (fun t42 w =>
    G (isB t42 false) (fun K => M (e 3) fun v => K v w) (fun t43 w =>
    G (isB t42 false) (fun K => M (e 10) fun v => K v w) (fun t44 w =>
    G (isB t42 false) (fun K => N (builtin Builtin.len #[22] 3 ([false]).toArray ([t44]).toArray) w K) (fun t45 w =>
    G (isB t42 false) (fun K => N (xv (xbin BinOp.gtr 2 (Operand.tmp 43) (Operand.tmp 45) t43 t45)) w K) (fun t46 w =>
    G (isB t39 true) (fun K => N (xpick t42 (Value.bool true) t46) w K) (fun t47 w =>
    G (isB t39 true) (fun K => M t47 fun v => K v w) (fun t48 w =>
    G (isB t48 false) (fun K => M (e 2) fun v => K v w) (fun t49 w =>
    G (isB t48 false) (fun K => N (builtin Builtin.len #[9] 3 ([false]).toArray ([t49]).toArray) w K) (fun t50 w =>
    G (isB t48 false) (fun K => N (xv (xbin BinOp.lss 3 (Operand.tmp 50) (Operand.const (Value.int IntKind.i64 1)) t50 (Value.int IntKind.i64 1))) w K) (fun t51 w =>
    G (isB t39 true) (fun K => N (xpick t48 (Value.bool true) t51) w K) (fun t52 w =>
    G (isB t39 true) (fun K => M t52 fun v => K v w) (fun t53 w =>
    G (isB t53 false) (fun K => M (e 2) fun v => K v w) (fun t54 w =>
    G (isB t53 false) (fun K => N (builtin Builtin.len #[9] 3 ([false]).toArray ([t54]).toArray) w K) (fun t55 w =>
    G (isB t53 false) (fun K => N (xv (xbin BinOp.gtr 3 (Operand.tmp 55) (Operand.const (Value.int IntKind.i64 32)) t55 (Value.int IntKind.i64 32))) w K) (fun t56 w =>
    G (isB t39 true) (fun K => N (xpick t53 (Value.bool true) t56) w K) (fun t57 w =>
    G (isB t39 true) (fun K => M t57 fun v => K v w) (fun t58 w =>
    G (isB t58 false) (fun K => M (e 13) fun v => K v w) (fun t59 w =>
    G (isB t58 false) (fun K => N (xv (xbin BinOp.eql 3 (Operand.tmp 59) (Operand.const (Value.int IntKind.i64 20)) t59 (Value.int IntKind.i64 20))) w K) (fun t60 w =>
    G (isB t58 false) (fun K => M t60 fun v => K v w) (fun t61 w =>
    G (isB t61 true) (fun K => M (e 9) fun v => K v w) (fun t62 w =>
    G (isB t61 true) (fun K => M (e 2) fun v => K v w) (fun t63 w =>
    G (isB t61 true) (fun K => N (xcall (Value.func (Fn.func 19) #[] #[]) [t62, t63]) w K) (fun t64 w =>
    G (isB t61 true) (fun K => M (e 3) fun v => K v w) (fun t65 w =>
    G (isB t61 true) (fun K => N (xv (xbin BinOp.gtr 2 (Operand.tmp 64) (Operand.tmp 65) t64 t65)) w K) (fun t66 w =>
    G (isB t58 false) (fun K => N (xpick t61 t66 (Value.bool false)) w K) (fun t67 w =>
    G (isB t39 true) (fun K => N (xpick t58 (Value.bool true) t67) w K) (fun t68 w =>
    N (xpick t39 t68 (Value.bool false)) w fun t69 w =>
    M t69 fun t8 =>
    k (Env.p e 8 t8) w) w) w) w) w) w) w) w) w) w) w) w) w) w) w) w) w) w) w) w) w) w) w) w) w) w) w) w) w) w) := nr (by kernel_rfl)
theorem c3_27_s (hw : Cur w) : W Try.prog 122 V3 c3_27 Q e w = (opsW (nx Try.prog) mv gdP 122 V3 o3_9 (fun e w => Q .ret e w) o3_9.toList [] e e w) := by rw [(by kernel_rfl : c3_27 = .seq (.region 9 o3_9 false) Code.ret), W_seq_reg]; simp only [W_ret, W_skip, W_exit, W_label]
theorem c3_26_v : opV V3 (.tmp 35) = true := by kernel_rfl
theorem c3_26_s (hw : Cur w) : W Try.prog 122 V3 c3_26 Q e w = (condP (ev e (.tmp 35)) (W Try.prog 122 V3 c3_27 Q e w) (Q .normal e w)) := by rw [(by kernel_rfl : c3_26 = .cond (.tmp 35) c3_27 Code.skip), W_cond, c3_26_v, cond_true]; simp only [W_ret, W_skip, W_exit, W_label]
theorem c3_25_s (hw : Cur w) : W Try.prog 122 V3 c3_25 Q e w = (opsW (nx Try.prog) mv gdP 122 V3 o3_8 (fun e w => W Try.prog 122 V3 c3_26 Q e w) o3_8.toList [] e e w) := by rw [(by kernel_rfl : c3_25 = .seq (.region 8 o3_8 false) c3_26), W_seq_reg]
theorem c3_6_s (hw : Cur w) : W Try.prog 122 V3 c3_6 Q e w = (W Try.prog 122 V3 c3_25 (seqQ (fun e w => W Try.prog 122 V3 c3_7 Q e w) Q) e w) := by rw [(by kernel_rfl : c3_6 = .seq c3_25 c3_7), W_seq]
theorem c3_5_s (hw : Cur w) : W Try.prog 122 V3 c3_5 Q e w = (opsW (nx Try.prog) mv gdP 122 V3 o3_7 (fun e w => W Try.prog 122 V3 c3_6 Q e w) o3_7.toList [] e e w) := by rw [(by kernel_rfl : c3_5 = .seq (.region 7 o3_7 false) c3_6), W_seq_reg]
theorem o3_5_eq : opsW N M G 122 V3 o3_5 k o3_5.toList [] e e w =
    (M (e 11) fun t25 =>
    N (xv (Op.unary UnOp.not t25)) w fun t26 w =>
    k (Env.p e 26 t26) w) := nr (by kernel_rfl)
theorem o3_6_eq : opsW N M G 122 V3 o3_6 k o3_6.toList [] e e w =
    (M (Value.bool false) fun t8 =>
    k (Env.p e 8 t8) w) := nr (by kernel_rfl)
theorem c3_30_s (hw : Cur w) : W Try.prog 122 V3 c3_30 Q e w = (opsW (nx Try.prog) mv gdP 122 V3 o3_6 (fun e w => Q .ret e w) o3_6.toList [] e e w) := by rw [(by kernel_rfl : c3_30 = .seq (.region 6 o3_6 false) Code.ret), W_seq_reg]; simp only [W_ret, W_skip, W_exit, W_label]
theorem c3_29_v : opV V3 (.tmp 26) = true := by kernel_rfl
theorem c3_29_s (hw : Cur w) : W Try.prog 122 V3 c3_29 Q e w = (condP (ev e (.tmp 26)) (W Try.prog 122 V3 c3_30 Q e w) (Q .normal e w)) := by rw [(by kernel_rfl : c3_29 = .cond (.tmp 26) c3_30 Code.skip), W_cond, c3_29_v, cond_true]; simp only [W_ret, W_skip, W_exit, W_label]
theorem c3_28_s (hw : Cur w) : W Try.prog 122 V3 c3_28 Q e w = (opsW (nx Try.prog) mv gdP 122 V3 o3_5 (fun e w => W Try.prog 122 V3 c3_29 Q e w) o3_5.toList [] e e w) := by rw [(by kernel_rfl : c3_28 = .seq (.region 5 o3_5 false) c3_29), W_seq_reg]
theorem c3_4_s (hw : Cur w) : W Try.prog 122 V3 c3_4 Q e w = (W Try.prog 122 V3 c3_28 (seqQ (fun e w => W Try.prog 122 V3 c3_5 Q e w) Q) e w) := by rw [(by kernel_rfl : c3_4 = .seq c3_28 c3_5), W_seq]
theorem c3_3_s (hw : Cur w) : W Try.prog 122 V3 c3_3 Q e w = (opsW (nx Try.prog) mv gdP 122 V3 o3_4 (fun e w => W Try.prog 122 V3 c3_4 Q e w) o3_4.toList [] e e w) := by rw [(by kernel_rfl : c3_3 = .seq (.region 4 o3_4 false) c3_4), W_seq_reg]
theorem c3_2_s (hw : Cur w) : W Try.prog 122 V3 c3_2 Q e w = (opsW (nx Try.prog) mv gdP 122 V3 o3_3 (fun e w => W Try.prog 122 V3 c3_3 Q e w) o3_3.toList [] e e w) := by rw [(by kernel_rfl : c3_2 = .seq (.region 3 o3_3 false) c3_3), W_seq_reg]
theorem o3_1_eq : opsW N M G 122 V3 o3_1 k o3_1.toList [] e e w =
    (N (xcall (Value.func (Fn.func 15) #[] #[]) []) w fun t15 w =>
    N (xv (Op.unary UnOp.not t15)) w fun t16 w =>
    k (Env.p e 16 t16) w) := nr (by kernel_rfl)
theorem o3_2_eq : opsW N M G 122 V3 o3_2 k o3_2.toList [] e e w =
    (M (Value.bool false) fun t8 =>
    k (Env.p e 8 t8) w) := nr (by kernel_rfl)
theorem c3_33_s (hw : Cur w) : W Try.prog 122 V3 c3_33 Q e w = (opsW (nx Try.prog) mv gdP 122 V3 o3_2 (fun e w => Q .ret e w) o3_2.toList [] e e w) := by rw [(by kernel_rfl : c3_33 = .seq (.region 2 o3_2 false) Code.ret), W_seq_reg]; simp only [W_ret, W_skip, W_exit, W_label]
theorem c3_32_v : opV V3 (.tmp 16) = true := by kernel_rfl
theorem c3_32_s (hw : Cur w) : W Try.prog 122 V3 c3_32 Q e w = (condP (ev e (.tmp 16)) (W Try.prog 122 V3 c3_33 Q e w) (Q .normal e w)) := by rw [(by kernel_rfl : c3_32 = .cond (.tmp 16) c3_33 Code.skip), W_cond, c3_32_v, cond_true]; simp only [W_ret, W_skip, W_exit, W_label]
theorem c3_31_s (hw : Cur w) : W Try.prog 122 V3 c3_31 Q e w = (opsW (nx Try.prog) mv gdP 122 V3 o3_1 (fun e w => W Try.prog 122 V3 c3_32 Q e w) o3_1.toList [] e e w) := by rw [(by kernel_rfl : c3_31 = .seq (.region 1 o3_1 false) c3_32), W_seq_reg]
theorem c3_1_s (hw : Cur w) : W Try.prog 122 V3 c3_1 Q e w = (W Try.prog 122 V3 c3_31 (seqQ (fun e w => W Try.prog 122 V3 c3_2 Q e w) Q) e w) := by rw [(by kernel_rfl : c3_1 = .seq c3_31 c3_2), W_seq]
theorem c3_s (hw : Cur w) : W Try.prog 122 V3 c3 Q e w = (opsW (nx Try.prog) mv gdP 122 V3 o3_0 (fun e w => W Try.prog 122 V3 c3_1 Q e w) o3_0.toList [] e e w) := by rw [(by kernel_rfl : c3 = .seq (.region 0 o3_0 false) c3_1), W_seq_reg]
theorem call3 {a0 a1 a2 a3 : Value} {w : World} {R : Value → World → Prop} (h : W Try.prog 122 V3 c3 (retQ Try.prog [.tmp 8] R) (argE [a0, a1, a2, a3]) w) : CallsN Try.prog 3 [a0, a1, a2, a3] w R :=
  callsN_of_W (c := c3) (rs := [.tmp 8]) V3 Try.ntmps3 (by rw [Try.results3]) mixed Try.func3 (by kernel_rfl) (by kernel_rfl) (by kernel_rfl) (by kernel_rfl) (by simp) h
noncomputable def hk3 := And.intro (@o3_0_eq) <| And.intro (@o3_3_eq) <| And.intro (@o3_4_eq) <| And.intro (@o3_7_eq) <| And.intro (@o3_17_eq) <| And.intro (@c3_9_s) <| And.intro (@o3_12_eq) <| And.intro (@o3_14_eq) <| And.intro (@c3_15_s) <| And.intro (@o3_15_eq) <| And.intro (@o3_16_eq) <| And.intro (@c3_19_s) <| And.intro (@c3_18_s) <| And.intro (@c3_17_s) <| And.intro (@c3_16_s) <| And.intro (@c3_14_s) <| And.intro (@o3_13_eq) <| And.intro (@c3_21_s) <| And.intro (@c3_20_s) <| And.intro (@c3_13_s) <| And.intro (@c3_12_s) <| And.intro (@c3_11_s) <| And.intro (@c3_10_s) <| And.intro (@c3_8_s) <| And.intro (@o3_10_eq) <| And.intro (@o3_11_eq) <| And.intro (@c3_24_s) <| And.intro (@c3_23_s) <| And.intro (@c3_22_s) <| And.intro (@c3_7_s) <| And.intro (@o3_8_eq) <| And.intro (@o3_9_eq) <| And.intro (@c3_27_s) <| And.intro (@c3_26_s) <| And.intro (@c3_25_s) <| And.intro (@c3_6_s) <| And.intro (@c3_5_s) <| And.intro (@o3_5_eq) <| And.intro (@o3_6_eq) <| And.intro (@c3_30_s) <| And.intro (@c3_29_s) <| And.intro (@c3_28_s) <| And.intro (@c3_4_s) <| And.intro (@c3_3_s) <| And.intro (@c3_2_s) <| And.intro (@o3_1_eq) <| And.intro (@o3_2_eq) <| And.intro (@c3_33_s) <| And.intro (@c3_32_s) <| And.intro (@c3_31_s) <| And.intro (@c3_1_s) <| @c3_s
-- K3: ↓hk3
/-! ### vouch/vouchlaw05.StoreParts -/
def V4 : Nat → Bool := fun i => [0, 1, 2, 6, 7, 8, 9, 10, 11, 12, 13, 25, 36, 63, 71, 116].elem i
noncomputable def c4 : Code := (Try.f4.body.getD .skip)
noncomputable def o4_0 : Array Oper := rO (cL c4)
noncomputable def c4_1 : Code := (cR c4)
noncomputable def c4_2 : Code := (cR c4_1)
noncomputable def o4_3 : Array Oper := rO (cL c4_2)
noncomputable def c4_3 : Code := (cR c4_2)
noncomputable def c4_4 : Code := (cR c4_3)
noncomputable def o4_8 : Array Oper := rO (cL c4_4)
noncomputable def c4_5 : Code := (cR c4_4)
noncomputable def c4_6 : Code := (cR c4_5)
noncomputable def c4_7 : Code := (cR c4_6)
noncomputable def o4_18 : Array Oper := rO (cL c4_7)
noncomputable def c4_8 : Code := (cL c4_6)
noncomputable def o4_11 : Array Oper := rO (cL c4_8)
noncomputable def c4_9 : Code := (cR c4_8)
noncomputable def c4_10 : Code := (cL c4_9)
noncomputable def c4_11 : Code := (cL c4_10)
noncomputable def c4_12 : Code := (cR c4_11)
noncomputable def c4_13 : Code := (cR c4_12)
noncomputable def o4_13 : Array Oper := rO c4_13
noncomputable def c4_14 : Code := (cL c4_12)
noncomputable def c4_15 : Code := (cL c4_14)
noncomputable def o4_14 : Array Oper := rO (cL c4_15)
noncomputable def c4_16 : Code := (cR c4_15)
noncomputable def c4_17 : Code := (cR c4_16)
noncomputable def o4_17 : Array Oper := rO c4_17
noncomputable def c4_18 : Code := (cL c4_16)
noncomputable def o4_15 : Array Oper := rO (cL c4_18)
noncomputable def c4_19 : Code := (cR c4_18)
noncomputable def c4_20 : Code := (cL c4_19)
noncomputable def o4_16 : Array Oper := rO (cL c4_20)
noncomputable def c4_21 : Code := (cL c4_11)
noncomputable def o4_12 : Array Oper := rO (cL c4_21)
noncomputable def c4_22 : Code := (cR c4_21)
noncomputable def c4_23 : Code := (cL c4_5)
noncomputable def o4_9 : Array Oper := rO (cL c4_23)
noncomputable def c4_24 : Code := (cR c4_23)
noncomputable def c4_25 : Code := (cL c4_24)
noncomputable def o4_10 : Array Oper := rO (cL c4_25)
noncomputable def c4_26 : Code := (cL c4_3)
noncomputable def o4_4 : Array Oper := rO (cL c4_26)
noncomputable def c4_27 : Code := (cR c4_26)
noncomputable def c4_28 : Code := (cL c4_27)
noncomputable def c4_29 : Code := (cL c4_28)
noncomputable def c4_30 : Code := (cR c4_29)
noncomputable def c4_31 : Code := (cR c4_30)
noncomputable def o4_6 : Array Oper := rO c4_31
noncomputable def c4_32 : Code := (cL c4_30)
noncomputable def c4_33 : Code := (cL c4_32)
noncomputable def o4_7 : Array Oper := rO c4_33
noncomputable def c4_34 : Code := (cL c4_29)
noncomputable def o4_5 : Array Oper := rO (cL c4_34)
noncomputable def c4_35 : Code := (cR c4_34)
noncomputable def c4_36 : Code := (cL c4_1)
noncomputable def o4_1 : Array Oper := rO (cL c4_36)
noncomputable def c4_37 : Code := (cR c4_36)
noncomputable def c4_38 : Code := (cL c4_37)
noncomputable def o4_2 : Array Oper := rO (cL c4_38)
theorem o4_0_eq : opsW N M G 121 V4 o4_0 k o4_0.toList [] e e w =
    (M (Value.bool false) fun t6 =>
    k (Env.p e 6 t6) w) := nr (by kernel_rfl)
theorem o4_3_eq : opsW N M G 121 V4 o4_3 k o4_3.toList [] e e w =
    (M (e 0) fun t27 =>
    N (xcall (Value.func (Fn.func 16) #[] #[]) [t27]) w fun t28 w =>
    M t28 fun t7 =>
    k (Env.p e 7 t7) w) := nr (by kernel_rfl)
theorem o4_8_eq : opsW N M G 121 V4 o4_8 k o4_8.toList [] e e w =
    (M (e 7) fun t46 =>
    M (e 2) fun t47 =>
    M (e 7) fun t48 =>
    M (e 2) fun t49 =>
    N (xcall (Value.func (Fn.func 19) #[] #[]) [t48, t49]) w fun t50 w =>
    N (xcall (Value.func (Fn.func 18) #[] #[]) [t46, t47, t50]) w fun t51 w =>
    M t51 fun t45 =>
    N (xv (Instr.extract t45 0)) w fun t52 w =>
    N (xv (Instr.extract t45 1)) w fun t53 w =>
    N (xv (Instr.alloc 31 true (.tuple #[]))) w fun t9 w =>
    N (xu (Instr.storeAt 31 t9 t52)) w fun _ w =>
    M t53 fun t10 =>
    k (Env.p (Env.p e 9 t9) 10 t10) w) := nr (by kernel_rfl)
theorem o4_18_eq : opsW N M G 121 V4 o4_18 k o4_18.toList [] e e w =
    (N (xv (Instr.fieldAt 31 (e 9) 3)) w fun t118 w =>
    N (xv (Instr.loadAt 2 t118)) w fun t119 w =>
    N (xv (xbin BinOp.eql 2 (Operand.tmp 119) (Operand.const (Value.int IntKind.i64 4611686018427387904)) t119 (Value.int IntKind.i64 4611686018427387904))) w fun t120 w =>
    M t120 fun t6 =>
    k (Env.p e 6 t6) w) := nr (by kernel_rfl)
theorem c4_7_s (hw : Cur w) : W Try.prog 121 V4 c4_7 Q e w = (opsW (nx Try.prog) mv gdP 121 V4 o4_18 (fun e w => Q .ret e w) o4_18.toList [] e e w) := by rw [(by kernel_rfl : c4_7 = .seq (.region 18 o4_18 false) Code.ret), W_seq_reg]; simp only [W_ret, W_skip, W_exit, W_label]
theorem o4_11_eq : opsW N M G 121 V4 o4_11 k o4_11.toList [] e e w =
    (M (e 7) fun t64 =>
    M (e 2) fun t65 =>
    N (xcall (Value.func (Fn.func 19) #[] #[]) [t64, t65]) w fun t66 w =>
    N (xv (xbin BinOp.add 2 (Operand.tmp 66) (Operand.const (Value.int IntKind.i64 1)) t66 (Value.int IntKind.i64 1))) w fun t67 w =>
    M t67 fun t11 =>
    k (Env.p e 11 t11) w) := nr (by kernel_rfl)
theorem o4_13_eq : opsW N M G 121 V4 o4_13 k o4_13.toList [] e e w =
    (M (e 11) fun t72 =>
    N (xv (xbin BinOp.add 2 (Operand.tmp 72) (Operand.const (Value.int IntKind.i64 1)) t72 (Value.int IntKind.i64 1))) w fun t73 w =>
    M t73 fun t11 =>
    k (Env.p e 11 t11) w) := nr (by kernel_rfl)
theorem c4_13_s (hw : Cur w) : W Try.prog 121 V4 c4_13 Q e w = (opsW (nx Try.prog) mv gdP 121 V4 o4_13 (fun e w => Q .normal e w) o4_13.toList [] e e w) := by rw [(by kernel_rfl : c4_13 = (.region 13 o4_13 false)), W_reg]
theorem o4_14_eq : opsW N M G 121 V4 o4_14 k o4_14.toList [] e e w =
    (M (e 7) fun t75 =>
    M (e 2) fun t76 =>
    M (e 11) fun t77 =>
    N (xcall (Value.func (Fn.func 18) #[] #[]) [t75, t76, t77]) w fun t78 w =>
    M t78 fun t74 =>
    N (xv (Instr.extract t74 0)) w fun t79 w =>
    N (xv (Instr.extract t74 1)) w fun t80 w =>
    N (xv (Instr.alloc 31 true (.tuple #[]))) w fun t12 w =>
    N (xu (Instr.storeAt 31 t12 t79)) w fun _ w =>
    M t80 fun t13 =>
    k (Env.p (Env.p e 12 t12) 13 t13) w) := nr (by kernel_rfl)
theorem o4_17_eq : opsW N M G 121 V4 o4_17 k o4_17.toList [] e e w =
    (N (xv (Instr.loadAt 31 (e 12))) w fun t117 w =>
    N (xu (Instr.storeAt 31 (e 9) t117)) w fun _ w =>
    k e w) := nr (by kernel_rfl)
theorem c4_17_s (hw : Cur w) : W Try.prog 121 V4 c4_17 Q e w = (opsW (nx Try.prog) mv gdP 121 V4 o4_17 (fun e w => Q .normal e w) o4_17.toList [] e e w) := by rw [(by kernel_rfl : c4_17 = (.region 17 o4_17 false)), W_reg]
theorem o4_15_eq : opsW N M G 121 V4 o4_15 k o4_15.toList [] e e w =
    (M (e 13) fun t81 =>
    N (xv (xbin BinOp.neq 32 (Operand.tmp 81) (Operand.const (Value.int IntKind.i64 0)) t81 (Value.int IntKind.i64 0))) w fun t82 w =>
    M t82 fun t83 =>
    G (isB t83 false) (fun K => N (xv (Instr.loadAt 31 (e 12))) w K) (fun t84 w =>
    G (isB t83 false) (fun K => N (xv (Instr.loadAt 31 (e 9))) w K) (fun t85 w =>
    G (isB t83 false) (fun K => N (xv (xbin BinOp.neq 31 (Operand.tmp 84) (Operand.tmp 85) t84 t85)) w K) (fun t86 w =>
    G (isB t83 false) (fun K => M t86 fun v => K v w) (fun t87 w =>
    G (isB t87 true) (fun K => N (xv (Instr.fieldAt 31 (e 9) 3)) w K) (fun t88 w =>
    G (isB t87 true) (fun K => N (xv (Instr.loadAt 2 t88)) w K) (fun t89 w =>
    G (isB t87 true) (fun K => M (e 11) fun v => K v w) (fun t90 w =>
    G (isB t87 true) (fun K => N (xv (xbin BinOp.neq 2 (Operand.tmp 89) (Operand.tmp 90) t89 t90)) w K) (fun t91 w =>
    G (isB t87 true) (fun K => M t91 fun v => K v w) (fun t92 w =>
    G (isB t92 false) (fun K => N (xv (Instr.fieldAt 31 (e 12) 2)) w K) (fun t93 w =>
    G (isB t92 false) (fun K => N (xv (Instr.loadAt 2 t93)) w K) (fun t94 w =>
    G (isB t92 false) (fun K => M (e 11) fun v => K v w) (fun t95 w =>
    G (isB t92 false) (fun K => N (xv (xbin BinOp.neq 2 (Operand.tmp 94) (Operand.tmp 95) t94 t95)) w K) (fun t96 w =>
    G (isB t87 true) (fun K => N (xpick t92 (Value.bool true) t96) w K) (fun t97 w =>
    G (isB t87 true) (fun K => M t97 fun v => K v w) (fun t98 w =>
    G (isB t98 false) (fun K => N (xv (Instr.fieldAt 31 (e 12) 3)) w K) (fun t99 w =>
    G (isB t98 false) (fun K => N (xv (Instr.loadAt 2 t99)) w K) (fun t100 w =>
    G (isB t98 false) (fun K => M (e 11) fun v => K v w) (fun t101 w =>
    G (isB t98 false) (fun K => N (xv (xbin BinOp.leq 2 (Operand.tmp 100) (Operand.tmp 101) t100 t101)) w K) (fun t102 w =>
    G (isB t87 true) (fun K => N (xpick t98 (Value.bool true) t102) w K) (fun t103 w =>
    G (isB t83 false) (fun K => N (xpick t87 t103 (Value.bool false)) w K) (fun t104 w =>
    N (xpick t83 (Value.bool true) t104) w fun t105 w =>
    M t105 fun t106 =>
    G (isB t106 false) (fun K => N (xv (Instr.loadAt 31 (e 12))) w K) (fun t107 w =>
    G (isB t106 false) (fun K => N (xv (Instr.loadAt 31 (e 9))) w K) (fun t108 w =>
    G (isB t106 false) (fun K => N (xv (xbin BinOp.eql 31 (Operand.tmp 107) (Operand.tmp 108) t107 t108)) w K) (fun t109 w =>
    G (isB t106 false) (fun K => M t109 fun v => K v w) (fun t110 w =>
    G (isB t110 true) (fun K => N (xv (Instr.fieldAt 31 (e 9) 3)) w K) (fun t111 w =>
    G (isB t110 true) (fun K => N (xv (Instr.loadAt 2 t111)) w K) (fun t112 w =>
    G (isB t110 true) (fun K => M (e 11) fun v => K v w) (fun t113 w =>
    G (isB t110 true) (fun K => N (xv (xbin BinOp.leq 2 (Operand.tmp 112) (Operand.tmp 113) t112 t113)) w K) (fun t114 w =>
    G (isB t106 false) (fun K => N (xpick t110 t114 (Value.bool false)) w K) (fun t115 w =>
    N (xpick t106 (Value.bool true) t115) w fun t116 w =>
    k (Env.p e 116 t116) w) w) w) w) w) w) w) w) w) w) w) w) w) w) w) w) w) w) w) w) w) w) w) w) w) w) w) w) w) w) w) := nr (by kernel_rfl)
theorem o4_16_eq : opsW N M G 121 V4 o4_16 k o4_16.toList [] e e w =
    (M (Value.bool false) fun t6 =>
    k (Env.p e 6 t6) w) := nr (by kernel_rfl)
theorem c4_20_s (hw : Cur w) : W Try.prog 121 V4 c4_20 Q e w = (opsW (nx Try.prog) mv gdP 121 V4 o4_16 (fun e w => Q .ret e w) o4_16.toList [] e e w) := by rw [(by kernel_rfl : c4_20 = .seq (.region 16 o4_16 false) Code.ret), W_seq_reg]; simp only [W_ret, W_skip, W_exit, W_label]
theorem c4_19_v : opV V4 (.tmp 116) = true := by kernel_rfl
theorem c4_19_s (hw : Cur w) : W Try.prog 121 V4 c4_19 Q e w = (condP (ev e (.tmp 116)) (W Try.prog 121 V4 c4_20 Q e w) (Q .normal e w)) := by rw [(by kernel_rfl : c4_19 = .cond (.tmp 116) c4_20 Code.skip), W_cond, c4_19_v, cond_true]; simp only [W_ret, W_skip, W_exit, W_label]
theorem c4_18_s (hw : Cur w) : W Try.prog 121 V4 c4_18 Q e w = (opsW (nx Try.prog) mv gdP 121 V4 o4_15 (fun e w => W Try.prog 121 V4 c4_19 Q e w) o4_15.toList [] e e w) := by rw [(by kernel_rfl : c4_18 = .seq (.region 15 o4_15 false) c4_19), W_seq_reg]
theorem c4_16_s (hw : Cur w) : W Try.prog 121 V4 c4_16 Q e w = (W Try.prog 121 V4 c4_18 (seqQ (fun e w => W Try.prog 121 V4 c4_17 Q e w) Q) e w) := by rw [(by kernel_rfl : c4_16 = .seq c4_18 c4_17), W_seq]
theorem c4_15_s (hw : Cur w) : W Try.prog 121 V4 c4_15 Q e w = (opsW (nx Try.prog) mv gdP 121 V4 o4_14 (fun e w => W Try.prog 121 V4 c4_16 Q e w) o4_14.toList [] e e w) := by rw [(by kernel_rfl : c4_15 = .seq (.region 14 o4_14 false) c4_16), W_seq_reg]
theorem c4_14_s (hw : Cur w) : W Try.prog 121 V4 c4_14 Q e w = (W Try.prog 121 V4 c4_15 (blockQ 3 Q) e w) := by rw [(by kernel_rfl : c4_14 = .block 3 c4_15), W_block]
theorem c4_12_s (hw : Cur w) : W Try.prog 121 V4 c4_12 Q e w = (W Try.prog 121 V4 c4_14 (seqQ (fun e w => W Try.prog 121 V4 c4_13 Q e w) Q) e w) := by rw [(by kernel_rfl : c4_12 = .seq c4_14 c4_13), W_seq]
theorem o4_12_eq : opsW N M G 121 V4 o4_12 k o4_12.toList [] e e w =
    (M (e 11) fun t68 =>
    M (e 7) fun t69 =>
    N (xcall (Value.func (Fn.func 22) #[] #[]) [t69]) w fun t70 w =>
    N (xv (xbin BinOp.leq 2 (Operand.tmp 68) (Operand.tmp 70) t68 t70)) w fun t71 w =>
    k (Env.p e 71 t71) w) := nr (by kernel_rfl)
theorem c4_22_v : opV V4 (.tmp 71) = true := by kernel_rfl
theorem c4_22_s (hw : Cur w) : W Try.prog 121 V4 c4_22 Q e w = (condP (ev e (.tmp 71)) (Q .normal e w) (Q (.exit 2) e w)) := by rw [(by kernel_rfl : c4_22 = .cond (.tmp 71) Code.skip (Code.exit 2)), W_cond, c4_22_v, cond_true]; simp only [W_ret, W_skip, W_exit, W_label]
theorem c4_21_s (hw : Cur w) : W Try.prog 121 V4 c4_21 Q e w = (opsW (nx Try.prog) mv gdP 121 V4 o4_12 (fun e w => W Try.prog 121 V4 c4_22 Q e w) o4_12.toList [] e e w) := by rw [(by kernel_rfl : c4_21 = .seq (.region 12 o4_12 false) c4_22), W_seq_reg]
theorem c4_11_s (hw : Cur w) : W Try.prog 121 V4 c4_11 Q e w = (W Try.prog 121 V4 c4_21 (seqQ (fun e w => W Try.prog 121 V4 c4_12 Q e w) Q) e w) := by rw [(by kernel_rfl : c4_11 = .seq c4_21 c4_12), W_seq]
theorem c4_10_s (hw : Cur w) : W Try.prog 121 V4 c4_10 Q e w = (LoopP (fun e w k => W Try.prog 121 V4 c4_11 (seqQ k Q) e w) e w) := by rw [(by kernel_rfl : c4_10 = .loop c4_11), W_loop]
theorem c4_9_s (hw : Cur w) : W Try.prog 121 V4 c4_9 Q e w = (W Try.prog 121 V4 c4_10 (blockQ 2 Q) e w) := by rw [(by kernel_rfl : c4_9 = .block 2 c4_10), W_block]
theorem c4_8_s (hw : Cur w) : W Try.prog 121 V4 c4_8 Q e w = (opsW (nx Try.prog) mv gdP 121 V4 o4_11 (fun e w => W Try.prog 121 V4 c4_9 Q e w) o4_11.toList [] e e w) := by rw [(by kernel_rfl : c4_8 = .seq (.region 11 o4_11 false) c4_9), W_seq_reg]
theorem c4_6_s (hw : Cur w) : W Try.prog 121 V4 c4_6 Q e w = (W Try.prog 121 V4 c4_8 (seqQ (fun e w => W Try.prog 121 V4 c4_7 Q e w) Q) e w) := by rw [(by kernel_rfl : c4_6 = .seq c4_8 c4_7), W_seq]
theorem o4_9_eq : drawGo N T M G H 121 V4 o4_9 S k o4_9.size true (Array.replicate o4_9.size false) [] e e w =
    (M (e 10) fun t54 =>
    T (xv (xbin BinOp.neq 32 (Operand.tmp 54) (Operand.const (Value.int IntKind.i64 0)) t54 (Value.int IntKind.i64 0))) fun t55 =>
    M t55 fun t56 =>
    H (isB t56 false) (fun K => T (xv (Instr.fieldAt 31 (e 9) 2)) K) (fun t57 =>
    H (isB t56 false) (fun K => T (xv (Instr.loadAt 2 t57)) K) (fun t58 =>
    H (isB t56 false) (fun K => M (e 7) K) (fun t59 =>
    H (isB t56 false) (fun K => M (e 2) K) (fun t60 =>
    G (isB t56 false) (fun K => N (xcall (Value.func (Fn.func 19) #[] #[]) [t59, t60]) w K) (fun t61 w =>
    S w ∧ (H (isB t56 false) (fun K => T (xv (xbin BinOp.neq 2 (Operand.tmp 58) (Operand.tmp 61) t58 t61)) K) (fun t62 =>
    T (xpick t56 (Value.bool true) t62) fun t63 =>
    k (Env.p e 63 t63) w))) w))))) := nr (by kernel_rfl)
theorem o4_10_eq : opsW N M G 121 V4 o4_10 k o4_10.toList [] e e w =
    (M (Value.bool false) fun t6 =>
    k (Env.p e 6 t6) w) := nr (by kernel_rfl)
theorem c4_25_s (hw : Cur w) : W Try.prog 121 V4 c4_25 Q e w = (opsW (nx Try.prog) mv gdP 121 V4 o4_10 (fun e w => Q .ret e w) o4_10.toList [] e e w) := by rw [(by kernel_rfl : c4_25 = .seq (.region 10 o4_10 false) Code.ret), W_seq_reg]; simp only [W_ret, W_skip, W_exit, W_label]
theorem c4_24_v : opV V4 (.tmp 63) = true := by kernel_rfl
theorem c4_24_s (hw : Cur w) : W Try.prog 121 V4 c4_24 Q e w = (condP (ev e (.tmp 63)) (W Try.prog 121 V4 c4_25 Q e w) (Q .normal e w)) := by rw [(by kernel_rfl : c4_24 = .cond (.tmp 63) c4_25 Code.skip), W_cond, c4_24_v, cond_true]; simp only [W_ret, W_skip, W_exit, W_label]
theorem c4_23_s (hw : Cur w) : W Try.prog 121 V4 c4_23 Q e w = (∃ S : World → Prop, S w.drew ∧ drawGo (nx Try.prog) (takeP Try.prog S) mv gdP gdT 121 V4 o4_9 S (fun e w => W Try.prog 121 V4 c4_24 Q e w) o4_9.size true (Array.replicate o4_9.size false) [] e e w.drew) := by rw [(by kernel_rfl : c4_23 = .seq (.region 9 o4_9 true) c4_24), W_seq_regD]
theorem c4_5_s (hw : Cur w) : W Try.prog 121 V4 c4_5 Q e w = (W Try.prog 121 V4 c4_23 (seqQ (fun e w => W Try.prog 121 V4 c4_6 Q e w) Q) e w) := by rw [(by kernel_rfl : c4_5 = .seq c4_23 c4_6), W_seq]
theorem c4_4_s (hw : Cur w) : W Try.prog 121 V4 c4_4 Q e w = (opsW (nx Try.prog) mv gdP 121 V4 o4_8 (fun e w => W Try.prog 121 V4 c4_5 Q e w) o4_8.toList [] e e w) := by rw [(by kernel_rfl : c4_4 = .seq (.region 8 o4_8 false) c4_5), W_seq_reg]
theorem o4_4_eq : opsW N M G 121 V4 o4_4 k o4_4.toList [] e e w =
    (M (Value.int IntKind.i64 0) fun t8 =>
    k (Env.p e 8 t8) w) := nr (by kernel_rfl)
theorem o4_6_eq : opsW N M G 121 V4 o4_6 k o4_6.toList [] e e w =
    (M (e 8) fun t37 =>
    N (xv (xbin BinOp.add 3 (Operand.tmp 37) (Operand.const (Value.int IntKind.i64 1)) t37 (Value.int IntKind.i64 1))) w fun t38 w =>
    M t38 fun t8 =>
    k (Env.p e 8 t8) w) := nr (by kernel_rfl)
theorem c4_31_s (hw : Cur w) : W Try.prog 121 V4 c4_31 Q e w = (opsW (nx Try.prog) mv gdP 121 V4 o4_6 (fun e w => Q .normal e w) o4_6.toList [] e e w) := by rw [(by kernel_rfl : c4_31 = (.region 6 o4_6 false)), W_reg]
theorem o4_7_eq : opsW N M G 121 V4 o4_7 k o4_7.toList [] e e w =
    (M (e 7) fun t39 =>
    M (e 1) fun t40 =>
    M (e 8) fun t41 =>
    N (xv (Instr.indexAt 22 t40 t41)) w fun t42 w =>
    N (xv (Instr.loadAt 40 t42)) w fun t43 w =>
    N (xcall (Value.func (Fn.func 21) #[] #[]) [t39, t43]) w fun t44 w =>
    k e w) := nr (by kernel_rfl)
theorem c4_33_s (hw : Cur w) : W Try.prog 121 V4 c4_33 Q e w = (opsW (nx Try.prog) mv gdP 121 V4 o4_7 (fun e w => Q .normal e w) o4_7.toList [] e e w) := by rw [(by kernel_rfl : c4_33 = (.region 7 o4_7 false)), W_reg]
theorem c4_32_s (hw : Cur w) : W Try.prog 121 V4 c4_32 Q e w = (W Try.prog 121 V4 c4_33 (blockQ 1 Q) e w) := by rw [(by kernel_rfl : c4_32 = .block 1 c4_33), W_block]
theorem c4_30_s (hw : Cur w) : W Try.prog 121 V4 c4_30 Q e w = (W Try.prog 121 V4 c4_32 (seqQ (fun e w => W Try.prog 121 V4 c4_31 Q e w) Q) e w) := by rw [(by kernel_rfl : c4_30 = .seq c4_32 c4_31), W_seq]
theorem o4_5_eq : opsW N M G 121 V4 o4_5 k o4_5.toList [] e e w =
    (M (e 8) fun t29 =>
    M (e 1) fun t30 =>
    N (builtin Builtin.len #[22] 3 ([false]).toArray ([t30]).toArray) w fun t31 w =>
    N (xv (xbin BinOp.lss 3 (Operand.tmp 29) (Operand.tmp 31) t29 t31)) w fun t32 w =>
    M t32 fun t33 =>
    G (isB t33 true) (fun K => M (e 8) fun v => K v w) (fun t34 w =>
    G (isB t33 true) (fun K => N (xv (xbin BinOp.lss 3 (Operand.tmp 34) (Operand.const (Value.int IntKind.i64 200)) t34 (Value.int IntKind.i64 200))) w K) (fun t35 w =>
    N (xpick t33 t35 (Value.bool false)) w fun t36 w =>
    k (Env.p e 36 t36) w) w) w) := nr (by kernel_rfl)
theorem c4_35_v : opV V4 (.tmp 36) = true := by kernel_rfl
theorem c4_35_s (hw : Cur w) : W Try.prog 121 V4 c4_35 Q e w = (condP (ev e (.tmp 36)) (Q .normal e w) (Q (.exit 0) e w)) := by rw [(by kernel_rfl : c4_35 = .cond (.tmp 36) Code.skip (Code.exit 0)), W_cond, c4_35_v, cond_true]; simp only [W_ret, W_skip, W_exit, W_label]
theorem c4_34_s (hw : Cur w) : W Try.prog 121 V4 c4_34 Q e w = (opsW (nx Try.prog) mv gdP 121 V4 o4_5 (fun e w => W Try.prog 121 V4 c4_35 Q e w) o4_5.toList [] e e w) := by rw [(by kernel_rfl : c4_34 = .seq (.region 5 o4_5 false) c4_35), W_seq_reg]
theorem c4_29_s (hw : Cur w) : W Try.prog 121 V4 c4_29 Q e w = (W Try.prog 121 V4 c4_34 (seqQ (fun e w => W Try.prog 121 V4 c4_30 Q e w) Q) e w) := by rw [(by kernel_rfl : c4_29 = .seq c4_34 c4_30), W_seq]
theorem c4_28_s (hw : Cur w) : W Try.prog 121 V4 c4_28 Q e w = (LoopP (fun e w k => W Try.prog 121 V4 c4_29 (seqQ k Q) e w) e w) := by rw [(by kernel_rfl : c4_28 = .loop c4_29), W_loop]
theorem c4_27_s (hw : Cur w) : W Try.prog 121 V4 c4_27 Q e w = (W Try.prog 121 V4 c4_28 (blockQ 0 Q) e w) := by rw [(by kernel_rfl : c4_27 = .block 0 c4_28), W_block]
theorem c4_26_s (hw : Cur w) : W Try.prog 121 V4 c4_26 Q e w = (opsW (nx Try.prog) mv gdP 121 V4 o4_4 (fun e w => W Try.prog 121 V4 c4_27 Q e w) o4_4.toList [] e e w) := by rw [(by kernel_rfl : c4_26 = .seq (.region 4 o4_4 false) c4_27), W_seq_reg]
theorem c4_3_s (hw : Cur w) : W Try.prog 121 V4 c4_3 Q e w = (W Try.prog 121 V4 c4_26 (seqQ (fun e w => W Try.prog 121 V4 c4_4 Q e w) Q) e w) := by rw [(by kernel_rfl : c4_3 = .seq c4_26 c4_4), W_seq]
theorem c4_2_s (hw : Cur w) : W Try.prog 121 V4 c4_2 Q e w = (opsW (nx Try.prog) mv gdP 121 V4 o4_3 (fun e w => W Try.prog 121 V4 c4_3 Q e w) o4_3.toList [] e e w) := by rw [(by kernel_rfl : c4_2 = .seq (.region 3 o4_3 false) c4_3), W_seq_reg]
theorem o4_1_eq : opsW N M G 121 V4 o4_1 k o4_1.toList [] e e w =
    (N (xcall (Value.func (Fn.func 15) #[] #[]) []) w fun t14 w =>
    N (xv (Op.unary UnOp.not t14)) w fun t15 w =>
    M t15 fun t16 =>
    G (isB t16 false) (fun K => M (e 2) fun v => K v w) (fun t17 w =>
    G (isB t16 false) (fun K => N (builtin Builtin.len #[9] 3 ([false]).toArray ([t17]).toArray) w K) (fun t18 w =>
    G (isB t16 false) (fun K => N (xv (xbin BinOp.lss 3 (Operand.tmp 18) (Operand.const (Value.int IntKind.i64 1)) t18 (Value.int IntKind.i64 1))) w K) (fun t19 w =>
    N (xpick t16 (Value.bool true) t19) w fun t20 w =>
    M t20 fun t21 =>
    G (isB t21 false) (fun K => M (e 2) fun v => K v w) (fun t22 w =>
    G (isB t21 false) (fun K => N (builtin Builtin.len #[9] 3 ([false]).toArray ([t22]).toArray) w K) (fun t23 w =>
    G (isB t21 false) (fun K => N (xv (xbin BinOp.gtr 3 (Operand.tmp 23) (Operand.const (Value.int IntKind.i64 32)) t23 (Value.int IntKind.i64 32))) w K) (fun t24 w =>
    N (xpick t21 (Value.bool true) t24) w fun t25 w =>
    k (Env.p e 25 t25) w) w) w) w) w) w) w) := nr (by kernel_rfl)
theorem o4_2_eq : opsW N M G 121 V4 o4_2 k o4_2.toList [] e e w =
    (N (xcall (Value.func (Fn.func 15) #[] #[]) []) w fun t26 w =>
    M t26 fun t6 =>
    k (Env.p e 6 t6) w) := nr (by kernel_rfl)
theorem c4_38_s (hw : Cur w) : W Try.prog 121 V4 c4_38 Q e w = (opsW (nx Try.prog) mv gdP 121 V4 o4_2 (fun e w => Q .ret e w) o4_2.toList [] e e w) := by rw [(by kernel_rfl : c4_38 = .seq (.region 2 o4_2 false) Code.ret), W_seq_reg]; simp only [W_ret, W_skip, W_exit, W_label]
theorem c4_37_v : opV V4 (.tmp 25) = true := by kernel_rfl
theorem c4_37_s (hw : Cur w) : W Try.prog 121 V4 c4_37 Q e w = (condP (ev e (.tmp 25)) (W Try.prog 121 V4 c4_38 Q e w) (Q .normal e w)) := by rw [(by kernel_rfl : c4_37 = .cond (.tmp 25) c4_38 Code.skip), W_cond, c4_37_v, cond_true]; simp only [W_ret, W_skip, W_exit, W_label]
theorem c4_36_s (hw : Cur w) : W Try.prog 121 V4 c4_36 Q e w = (opsW (nx Try.prog) mv gdP 121 V4 o4_1 (fun e w => W Try.prog 121 V4 c4_37 Q e w) o4_1.toList [] e e w) := by rw [(by kernel_rfl : c4_36 = .seq (.region 1 o4_1 false) c4_37), W_seq_reg]
theorem c4_1_s (hw : Cur w) : W Try.prog 121 V4 c4_1 Q e w = (W Try.prog 121 V4 c4_36 (seqQ (fun e w => W Try.prog 121 V4 c4_2 Q e w) Q) e w) := by rw [(by kernel_rfl : c4_1 = .seq c4_36 c4_2), W_seq]
theorem c4_s (hw : Cur w) : W Try.prog 121 V4 c4 Q e w = (opsW (nx Try.prog) mv gdP 121 V4 o4_0 (fun e w => W Try.prog 121 V4 c4_1 Q e w) o4_0.toList [] e e w) := by rw [(by kernel_rfl : c4 = .seq (.region 0 o4_0 false) c4_1), W_seq_reg]
theorem call4 {a0 a1 a2 : Value} {w : World} {R : Value → World → Prop} (h : W Try.prog 121 V4 c4 (retQ Try.prog [.tmp 6] R) (argE [a0, a1, a2]) w) : CallsN Try.prog 4 [a0, a1, a2] w R :=
  callsN_of_W (c := c4) (rs := [.tmp 6]) V4 Try.ntmps4 (by rw [Try.results4]) mixed Try.func4 (by kernel_rfl) (by kernel_rfl) (by kernel_rfl) (by kernel_rfl) (by simp) h
noncomputable def hk4 := And.intro (@o4_0_eq) <| And.intro (@o4_3_eq) <| And.intro (@o4_8_eq) <| And.intro (@o4_18_eq) <| And.intro (@c4_7_s) <| And.intro (@o4_11_eq) <| And.intro (@o4_13_eq) <| And.intro (@c4_13_s) <| And.intro (@o4_14_eq) <| And.intro (@o4_17_eq) <| And.intro (@c4_17_s) <| And.intro (@o4_15_eq) <| And.intro (@o4_16_eq) <| And.intro (@c4_20_s) <| And.intro (@c4_19_s) <| And.intro (@c4_18_s) <| And.intro (@c4_16_s) <| And.intro (@c4_15_s) <| And.intro (@c4_14_s) <| And.intro (@c4_12_s) <| And.intro (@o4_12_eq) <| And.intro (@c4_22_s) <| And.intro (@c4_21_s) <| And.intro (@c4_11_s) <| And.intro (@c4_10_s) <| And.intro (@c4_9_s) <| And.intro (@c4_8_s) <| And.intro (@c4_6_s) <| And.intro (@o4_9_eq) <| And.intro (@o4_10_eq) <| And.intro (@c4_25_s) <| And.intro (@c4_24_s) <| And.intro (@c4_23_s) <| And.intro (@c4_5_s) <| And.intro (@c4_4_s) <| And.intro (@o4_4_eq) <| And.intro (@o4_6_eq) <| And.intro (@c4_31_s) <| And.intro (@o4_7_eq) <| And.intro (@c4_33_s) <| And.intro (@c4_32_s) <| And.intro (@c4_30_s) <| And.intro (@o4_5_eq) <| And.intro (@c4_35_s) <| And.intro (@c4_34_s) <| And.intro (@c4_29_s) <| And.intro (@c4_28_s) <| And.intro (@c4_27_s) <| And.intro (@c4_26_s) <| And.intro (@c4_3_s) <| And.intro (@c4_2_s) <| And.intro (@o4_1_eq) <| And.intro (@o4_2_eq) <| And.intro (@c4_38_s) <| And.intro (@c4_37_s) <| And.intro (@c4_36_s) <| And.intro (@c4_1_s) <| @c4_s
-- K4: ↓hk4
/-! ### vouch/vouchlaw05.StoreTrims -/
def V5 : Nat → Bool := fun i => [0, 1, 2, 6, 7, 8, 9, 10, 11, 12, 13, 15, 17, 28, 48, 57, 66, 74].elem i
noncomputable def c5 : Code := (Try.f5.body.getD .skip)
noncomputable def o5_0 : Array Oper := rO (cL c5)
noncomputable def c5_1 : Code := (cR c5)
noncomputable def c5_2 : Code := (cR c5_1)
noncomputable def o5_3 : Array Oper := rO (cL c5_2)
noncomputable def c5_3 : Code := (cR c5_2)
noncomputable def o5_4 : Array Oper := rO (cL c5_3)
noncomputable def c5_4 : Code := (cR c5_3)
noncomputable def c5_5 : Code := (cR c5_4)
noncomputable def o5_9 : Array Oper := rO (cL c5_5)
noncomputable def c5_6 : Code := (cR c5_5)
noncomputable def o5_10 : Array Oper := rO (cL c5_6)
noncomputable def c5_7 : Code := (cR c5_6)
noncomputable def o5_11 : Array Oper := rO (cL c5_7)
noncomputable def c5_8 : Code := (cR c5_7)
noncomputable def c5_9 : Code := (cR c5_8)
noncomputable def o5_14 : Array Oper := rO (cL c5_9)
noncomputable def c5_10 : Code := (cR c5_9)
noncomputable def c5_11 : Code := (cR c5_10)
noncomputable def o5_17 : Array Oper := rO (cL c5_11)
noncomputable def c5_12 : Code := (cR c5_11)
noncomputable def o5_18 : Array Oper := rO (cL c5_12)
noncomputable def c5_13 : Code := (cR c5_12)
noncomputable def c5_14 : Code := (cR c5_13)
noncomputable def o5_23 : Array Oper := rO (cL c5_14)
noncomputable def c5_15 : Code := (cL c5_13)
noncomputable def c5_16 : Code := (cL c5_15)
noncomputable def o5_19 : Array Oper := rO (cL c5_16)
noncomputable def c5_17 : Code := (cR c5_16)
noncomputable def c5_18 : Code := (cL c5_17)
noncomputable def o5_20 : Array Oper := rO (cL c5_18)
noncomputable def c5_19 : Code := (cR c5_17)
noncomputable def o5_21 : Array Oper := rO (cL c5_19)
noncomputable def c5_20 : Code := (cR c5_19)
noncomputable def c5_21 : Code := (cL c5_20)
noncomputable def o5_22 : Array Oper := rO (cL c5_21)
noncomputable def c5_22 : Code := (cL c5_10)
noncomputable def o5_15 : Array Oper := rO (cL c5_22)
noncomputable def c5_23 : Code := (cR c5_22)
noncomputable def c5_24 : Code := (cL c5_23)
noncomputable def o5_16 : Array Oper := rO c5_24
noncomputable def c5_25 : Code := (cL c5_8)
noncomputable def o5_12 : Array Oper := rO (cL c5_25)
noncomputable def c5_26 : Code := (cR c5_25)
noncomputable def c5_27 : Code := (cL c5_26)
noncomputable def o5_13 : Array Oper := rO (cL c5_27)
noncomputable def c5_28 : Code := (cL c5_4)
noncomputable def o5_5 : Array Oper := rO (cL c5_28)
noncomputable def c5_29 : Code := (cR c5_28)
noncomputable def c5_30 : Code := (cL c5_29)
noncomputable def c5_31 : Code := (cL c5_30)
noncomputable def c5_32 : Code := (cR c5_31)
noncomputable def c5_33 : Code := (cR c5_32)
noncomputable def o5_7 : Array Oper := rO c5_33
noncomputable def c5_34 : Code := (cL c5_32)
noncomputable def c5_35 : Code := (cL c5_34)
noncomputable def o5_8 : Array Oper := rO c5_35
noncomputable def c5_36 : Code := (cL c5_31)
noncomputable def o5_6 : Array Oper := rO (cL c5_36)
noncomputable def c5_37 : Code := (cR c5_36)
noncomputable def c5_38 : Code := (cL c5_1)
noncomputable def o5_1 : Array Oper := rO (cL c5_38)
noncomputable def c5_39 : Code := (cR c5_38)
noncomputable def c5_40 : Code := (cL c5_39)
noncomputable def o5_2 : Array Oper := rO (cL c5_40)
theorem o5_0_eq : opsW N M G 99 V5 o5_0 k o5_0.toList [] e e w =
    (M (Value.bool false) fun t6 =>
    k (Env.p e 6 t6) w) := nr (by kernel_rfl)
theorem o5_3_eq : opsW N M G 99 V5 o5_3 k o5_3.toList [] e e w =
    (M (e 0) fun t18 =>
    N (xv (convert 5 3 t18)) w fun t19 w =>
    N (xcall (Value.func (Fn.func 16) #[] #[]) [t19]) w fun t20 w =>
    M t20 fun t7 =>
    k (Env.p e 7 t7) w) := nr (by kernel_rfl)
theorem o5_4_eq : opsW N M G 99 V5 o5_4 k o5_4.toList [] e e w =
    (M (e 0) fun t21 =>
    N (xv (convert 5 3 t21)) w fun t22 w =>
    N (builtin Builtin.max #[3, 3] 3 ([false, true]).toArray ([t22, (Value.int IntKind.i64 1)]).toArray) w fun t23 w =>
    N (builtin Builtin.min #[3, 3] 3 ([false, true]).toArray ([t23, (Value.int IntKind.i64 64)]).toArray) w fun t24 w =>
    M t24 fun t8 =>
    k (Env.p e 8 t8) w) := nr (by kernel_rfl)
theorem o5_9_eq : opsW N M G 99 V5 o5_9 k o5_9.toList [] e e w =
    (M (e 7) fun t35 =>
    N (xcall (Value.func (Fn.func 23) #[] #[]) [(Value.string ⟨#[111, 116, 104, 101, 114]⟩), (Value.string ⟨#[]⟩)]) w fun t36 w =>
    N (xv (Instr.buildSlice 40 1 ([(0, t36)]).toArray)) w fun t37 w =>
    N (xcall (Value.func (Fn.func 21) #[] #[]) [t35, t37]) w fun t38 w =>
    k e w) := nr (by kernel_rfl)
theorem o5_10_eq : opsW N M G 99 V5 o5_10 k o5_10.toList [] e e w =
    (M (e 1) fun t39 =>
    N (xv (convert 5 3 t39)) w fun t40 w =>
    M (e 8) fun t41 =>
    N (builtin Builtin.min #[3, 3] 3 ([false, false]).toArray ([t40, t41]).toArray) w fun t42 w =>
    M t42 fun t10 =>
    k (Env.p e 10 t10) w) := nr (by kernel_rfl)
theorem o5_11_eq : opsW N M G 99 V5 o5_11 k o5_11.toList [] e e w =
    (M (e 7) fun t43 =>
    N (xcall (Value.func (Fn.func 24) #[] #[]) [t43, (Value.string ⟨#[107]⟩)]) w fun t44 w =>
    M t44 fun t11 =>
    k (Env.p e 11 t11) w) := nr (by kernel_rfl)
theorem o5_14_eq : opsW N M G 99 V5 o5_14 k o5_14.toList [] e e w =
    (M (e 1) fun t49 =>
    N (xv (convert 5 3 t49)) w fun t50 w =>
    M (e 10) fun t51 =>
    N (xv (xbin BinOp.sub 3 (Operand.tmp 50) (Operand.tmp 51) t50 t51)) w fun t52 w =>
    N (xv (xbin BinOp.add 3 (Operand.tmp 52) (Operand.const (Value.int IntKind.i64 1)) t52 (Value.int IntKind.i64 1))) w fun t53 w =>
    M t53 fun t12 =>
    k (Env.p e 12 t12) w) := nr (by kernel_rfl)
theorem o5_17_eq : opsW N M G 99 V5 o5_17 k o5_17.toList [] e e w =
    (M (e 2) fun t58 =>
    N (xv (convert 5 2 t58)) w fun t59 w =>
    M t59 fun t13 =>
    k (Env.p e 13 t13) w) := nr (by kernel_rfl)
theorem o5_18_eq : opsW N M G 99 V5 o5_18 k o5_18.toList [] e e w =
    (M (e 7) fun t61 =>
    M (e 13) fun t62 =>
    N (xcall (Value.func (Fn.func 18) #[] #[]) [t61, (Value.string ⟨#[107]⟩), t62]) w fun t63 w =>
    M t63 fun t60 =>
    N (xv (Instr.extract t60 0)) w fun t64 w =>
    N (xv (Instr.extract t60 1)) w fun t65 w =>
    N (xv (Instr.alloc 31 true (.tuple #[]))) w fun t14 w =>
    N (xu (Instr.storeAt 31 t14 t64)) w fun _ w =>
    M t65 fun t15 =>
    k (Env.p e 15 t15) w) := nr (by kernel_rfl)
theorem o5_23_eq : opsW N M G 99 V5 o5_23 k o5_23.toList [] e e w =
    (M (e 15) fun t86 =>
    N (xv (xbin BinOp.eql 32 (Operand.tmp 86) (Operand.const (Value.int IntKind.i64 0)) t86 (Value.int IntKind.i64 0))) w fun t87 w =>
    M t87 fun t88 =>
    G (isB t88 true) (fun K => M (e 7) fun v => K v w) (fun t89 w =>
    G (isB t88 true) (fun K => N (xcall (Value.func (Fn.func 19) #[] #[]) [t89, (Value.string ⟨#[107]⟩)]) w K) (fun t90 w =>
    G (isB t88 true) (fun K => M (e 12) fun v => K v w) (fun t91 w =>
    G (isB t88 true) (fun K => N (xv (xbin BinOp.eql 2 (Operand.tmp 90) (Operand.tmp 91) t90 t91)) w K) (fun t92 w =>
    N (xpick t88 t92 (Value.bool false)) w fun t93 w =>
    M t93 fun t94 =>
    G (isB t94 true) (fun K => M (e 7) fun v => K v w) (fun t95 w =>
    G (isB t94 true) (fun K => N (xcall (Value.func (Fn.func 19) #[] #[]) [t95, (Value.string ⟨#[110, 111, 110, 101]⟩)]) w K) (fun t96 w =>
    G (isB t94 true) (fun K => N (xv (xbin BinOp.eql 2 (Operand.tmp 96) (Operand.const (Value.int IntKind.i64 0)) t96 (Value.int IntKind.i64 0))) w K) (fun t97 w =>
    N (xpick t94 t97 (Value.bool false)) w fun t98 w =>
    M t98 fun t6 =>
    k (Env.p e 6 t6) w) w) w) w) w) w) w) w) := nr (by kernel_rfl)
theorem c5_14_s (hw : Cur w) : W Try.prog 99 V5 c5_14 Q e w = (opsW (nx Try.prog) mv gdP 99 V5 o5_23 (fun e w => Q .ret e w) o5_23.toList [] e e w) := by rw [(by kernel_rfl : c5_14 = .seq (.region 23 o5_23 false) Code.ret), W_seq_reg]; simp only [W_ret, W_skip, W_exit, W_label]
theorem o5_19_eq : opsW N M G 99 V5 o5_19 k o5_19.toList [] e e w =
    (M (e 13) fun t67 =>
    M (e 1) fun t68 =>
    N (xv (convert 5 2 t68)) w fun t69 w =>
    N (xv (xbin BinOp.add 2 (Operand.tmp 69) (Operand.const (Value.int IntKind.i64 1)) t69 (Value.int IntKind.i64 1))) w fun t70 w =>
    N (xv (xbin BinOp.gtr 2 (Operand.tmp 67) (Operand.tmp 70) t67 t70)) w fun t71 w =>
    M t71 fun t66 =>
    k (Env.p e 66 t66) w) := nr (by kernel_rfl)
theorem o5_20_eq : opsW N M G 99 V5 o5_20 k o5_20.toList [] e e w =
    (M (e 15) fun t72 =>
    N (xv (xbin BinOp.eql 3 (Operand.tmp 72) (Operand.const (Value.int IntKind.i64 21)) t72 (Value.int IntKind.i64 21))) w fun t73 w =>
    M t73 fun t6 =>
    k (Env.p e 6 t6) w) := nr (by kernel_rfl)
theorem c5_18_s (hw : Cur w) : W Try.prog 99 V5 c5_18 Q e w = (opsW (nx Try.prog) mv gdP 99 V5 o5_20 (fun e w => Q .ret e w) o5_20.toList [] e e w) := by rw [(by kernel_rfl : c5_18 = .seq (.region 20 o5_20 false) Code.ret), W_seq_reg]; simp only [W_ret, W_skip, W_exit, W_label]
theorem o5_21_eq : opsW N M G 99 V5 o5_21 k o5_21.toList [] e e w =
    (M (e 13) fun t75 =>
    M (e 12) fun t76 =>
    N (xv (xbin BinOp.lss 2 (Operand.tmp 75) (Operand.tmp 76) t75 t76)) w fun t77 w =>
    M t77 fun t74 =>
    k (Env.p e 74 t74) w) := nr (by kernel_rfl)
theorem o5_22_eq : opsW N M G 99 V5 o5_22 k o5_22.toList [] e e w =
    (M (e 15) fun t78 =>
    N (xv (xbin BinOp.eql 3 (Operand.tmp 78) (Operand.const (Value.int IntKind.i64 20)) t78 (Value.int IntKind.i64 20))) w fun t79 w =>
    M t79 fun t80 =>
    G (isB t80 true) (fun K => M (e 7) fun v => K v w) (fun t81 w =>
    G (isB t80 true) (fun K => N (xcall (Value.func (Fn.func 19) #[] #[]) [t81, (Value.string ⟨#[107]⟩)]) w K) (fun t82 w =>
    G (isB t80 true) (fun K => M (e 12) fun v => K v w) (fun t83 w =>
    G (isB t80 true) (fun K => N (xv (xbin BinOp.eql 2 (Operand.tmp 82) (Operand.tmp 83) t82 t83)) w K) (fun t84 w =>
    N (xpick t80 t84 (Value.bool false)) w fun t85 w =>
    M t85 fun t6 =>
    k (Env.p e 6 t6) w) w) w) w) w) := nr (by kernel_rfl)
theorem c5_21_s (hw : Cur w) : W Try.prog 99 V5 c5_21 Q e w = (opsW (nx Try.prog) mv gdP 99 V5 o5_22 (fun e w => Q .ret e w) o5_22.toList [] e e w) := by rw [(by kernel_rfl : c5_21 = .seq (.region 22 o5_22 false) Code.ret), W_seq_reg]; simp only [W_ret, W_skip, W_exit, W_label]
theorem c5_20_v : opV V5 (.tmp 74) = true := by kernel_rfl
theorem c5_20_s (hw : Cur w) : W Try.prog 99 V5 c5_20 Q e w = (condP (ev e (.tmp 74)) (W Try.prog 99 V5 c5_21 Q e w) (Q .normal e w)) := by rw [(by kernel_rfl : c5_20 = .cond (.tmp 74) c5_21 Code.skip), W_cond, c5_20_v, cond_true]; simp only [W_ret, W_skip, W_exit, W_label]
theorem c5_19_s (hw : Cur w) : W Try.prog 99 V5 c5_19 Q e w = (opsW (nx Try.prog) mv gdP 99 V5 o5_21 (fun e w => W Try.prog 99 V5 c5_20 Q e w) o5_21.toList [] e e w) := by rw [(by kernel_rfl : c5_19 = .seq (.region 21 o5_21 false) c5_20), W_seq_reg]
theorem c5_17_v : opV V5 (.tmp 66) = true := by kernel_rfl
theorem c5_17_s (hw : Cur w) : W Try.prog 99 V5 c5_17 Q e w = (condP (ev e (.tmp 66)) (W Try.prog 99 V5 c5_18 Q e w) (W Try.prog 99 V5 c5_19 Q e w)) := by rw [(by kernel_rfl : c5_17 = .cond (.tmp 66) c5_18 c5_19), W_cond, c5_17_v, cond_true]
theorem c5_16_s (hw : Cur w) : W Try.prog 99 V5 c5_16 Q e w = (opsW (nx Try.prog) mv gdP 99 V5 o5_19 (fun e w => W Try.prog 99 V5 c5_17 Q e w) o5_19.toList [] e e w) := by rw [(by kernel_rfl : c5_16 = .seq (.region 19 o5_19 false) c5_17), W_seq_reg]
theorem c5_15_s (hw : Cur w) : W Try.prog 99 V5 c5_15 Q e w = (W Try.prog 99 V5 c5_16 (blockQ 2 Q) e w) := by rw [(by kernel_rfl : c5_15 = .block 2 c5_16), W_block]
theorem c5_13_s (hw : Cur w) : W Try.prog 99 V5 c5_13 Q e w = (W Try.prog 99 V5 c5_15 (seqQ (fun e w => W Try.prog 99 V5 c5_14 Q e w) Q) e w) := by rw [(by kernel_rfl : c5_13 = .seq c5_15 c5_14), W_seq]
theorem c5_12_s (hw : Cur w) : W Try.prog 99 V5 c5_12 Q e w = (opsW (nx Try.prog) mv gdP 99 V5 o5_18 (fun e w => W Try.prog 99 V5 c5_13 Q e w) o5_18.toList [] e e w) := by rw [(by kernel_rfl : c5_12 = .seq (.region 18 o5_18 false) c5_13), W_seq_reg]
theorem c5_11_s (hw : Cur w) : W Try.prog 99 V5 c5_11 Q e w = (opsW (nx Try.prog) mv gdP 99 V5 o5_17 (fun e w => W Try.prog 99 V5 c5_12 Q e w) o5_17.toList [] e e w) := by rw [(by kernel_rfl : c5_11 = .seq (.region 17 o5_17 false) c5_12), W_seq_reg]
theorem o5_15_eq : opsW N M G 99 V5 o5_15 k o5_15.toList [] e e w =
    (M (e 1) fun t54 =>
    N (xv (convert 5 3 t54)) w fun t55 w =>
    M (e 8) fun t56 =>
    N (xv (xbin BinOp.leq 3 (Operand.tmp 55) (Operand.tmp 56) t55 t56)) w fun t57 w =>
    k (Env.p e 57 t57) w) := nr (by kernel_rfl)
theorem o5_16_eq : opsW N M G 99 V5 o5_16 k o5_16.toList [] e e w =
    (M (Value.int IntKind.i64 0) fun t12 =>
    k (Env.p e 12 t12) w) := nr (by kernel_rfl)
theorem c5_24_s (hw : Cur w) : W Try.prog 99 V5 c5_24 Q e w = (opsW (nx Try.prog) mv gdP 99 V5 o5_16 (fun e w => Q .normal e w) o5_16.toList [] e e w) := by rw [(by kernel_rfl : c5_24 = (.region 16 o5_16 false)), W_reg]
theorem c5_23_v : opV V5 (.tmp 57) = true := by kernel_rfl
theorem c5_23_s (hw : Cur w) : W Try.prog 99 V5 c5_23 Q e w = (condP (ev e (.tmp 57)) (W Try.prog 99 V5 c5_24 Q e w) (Q .normal e w)) := by rw [(by kernel_rfl : c5_23 = .cond (.tmp 57) c5_24 Code.skip), W_cond, c5_23_v, cond_true]; simp only [W_ret, W_skip, W_exit, W_label]
theorem c5_22_s (hw : Cur w) : W Try.prog 99 V5 c5_22 Q e w = (opsW (nx Try.prog) mv gdP 99 V5 o5_15 (fun e w => W Try.prog 99 V5 c5_23 Q e w) o5_15.toList [] e e w) := by rw [(by kernel_rfl : c5_22 = .seq (.region 15 o5_15 false) c5_23), W_seq_reg]
theorem c5_10_s (hw : Cur w) : W Try.prog 99 V5 c5_10 Q e w = (W Try.prog 99 V5 c5_22 (seqQ (fun e w => W Try.prog 99 V5 c5_11 Q e w) Q) e w) := by rw [(by kernel_rfl : c5_10 = .seq c5_22 c5_11), W_seq]
theorem c5_9_s (hw : Cur w) : W Try.prog 99 V5 c5_9 Q e w = (opsW (nx Try.prog) mv gdP 99 V5 o5_14 (fun e w => W Try.prog 99 V5 c5_10 Q e w) o5_14.toList [] e e w) := by rw [(by kernel_rfl : c5_9 = .seq (.region 14 o5_14 false) c5_10), W_seq_reg]
theorem o5_12_eq : opsW N M G 99 V5 o5_12 k o5_12.toList [] e e w =
    (M (e 11) fun t45 =>
    N (builtin Builtin.len #[46] 3 ([false]).toArray ([t45]).toArray) w fun t46 w =>
    M (e 10) fun t47 =>
    N (xv (xbin BinOp.neq 3 (Operand.tmp 46) (Operand.tmp 47) t46 t47)) w fun t48 w =>
    k (Env.p e 48 t48) w) := nr (by kernel_rfl)
theorem o5_13_eq : opsW N M G 99 V5 o5_13 k o5_13.toList [] e e w =
    (M (Value.bool false) fun t6 =>
    k (Env.p e 6 t6) w) := nr (by kernel_rfl)
theorem c5_27_s (hw : Cur w) : W Try.prog 99 V5 c5_27 Q e w = (opsW (nx Try.prog) mv gdP 99 V5 o5_13 (fun e w => Q .ret e w) o5_13.toList [] e e w) := by rw [(by kernel_rfl : c5_27 = .seq (.region 13 o5_13 false) Code.ret), W_seq_reg]; simp only [W_ret, W_skip, W_exit, W_label]
theorem c5_26_v : opV V5 (.tmp 48) = true := by kernel_rfl
theorem c5_26_s (hw : Cur w) : W Try.prog 99 V5 c5_26 Q e w = (condP (ev e (.tmp 48)) (W Try.prog 99 V5 c5_27 Q e w) (Q .normal e w)) := by rw [(by kernel_rfl : c5_26 = .cond (.tmp 48) c5_27 Code.skip), W_cond, c5_26_v, cond_true]; simp only [W_ret, W_skip, W_exit, W_label]
theorem c5_25_s (hw : Cur w) : W Try.prog 99 V5 c5_25 Q e w = (opsW (nx Try.prog) mv gdP 99 V5 o5_12 (fun e w => W Try.prog 99 V5 c5_26 Q e w) o5_12.toList [] e e w) := by rw [(by kernel_rfl : c5_25 = .seq (.region 12 o5_12 false) c5_26), W_seq_reg]
theorem c5_8_s (hw : Cur w) : W Try.prog 99 V5 c5_8 Q e w = (W Try.prog 99 V5 c5_25 (seqQ (fun e w => W Try.prog 99 V5 c5_9 Q e w) Q) e w) := by rw [(by kernel_rfl : c5_8 = .seq c5_25 c5_9), W_seq]
theorem c5_7_s (hw : Cur w) : W Try.prog 99 V5 c5_7 Q e w = (opsW (nx Try.prog) mv gdP 99 V5 o5_11 (fun e w => W Try.prog 99 V5 c5_8 Q e w) o5_11.toList [] e e w) := by rw [(by kernel_rfl : c5_7 = .seq (.region 11 o5_11 false) c5_8), W_seq_reg]
theorem c5_6_s (hw : Cur w) : W Try.prog 99 V5 c5_6 Q e w = (opsW (nx Try.prog) mv gdP 99 V5 o5_10 (fun e w => W Try.prog 99 V5 c5_7 Q e w) o5_10.toList [] e e w) := by rw [(by kernel_rfl : c5_6 = .seq (.region 10 o5_10 false) c5_7), W_seq_reg]
theorem c5_5_s (hw : Cur w) : W Try.prog 99 V5 c5_5 Q e w = (opsW (nx Try.prog) mv gdP 99 V5 o5_9 (fun e w => W Try.prog 99 V5 c5_6 Q e w) o5_9.toList [] e e w) := by rw [(by kernel_rfl : c5_5 = .seq (.region 9 o5_9 false) c5_6), W_seq_reg]
theorem o5_5_eq : opsW N M G 99 V5 o5_5 k o5_5.toList [] e e w =
    (M (Value.int IntKind.i64 0) fun t9 =>
    k (Env.p e 9 t9) w) := nr (by kernel_rfl)
theorem o5_7_eq : opsW N M G 99 V5 o5_7 k o5_7.toList [] e e w =
    (M (e 9) fun t29 =>
    N (xv (xbin BinOp.add 3 (Operand.tmp 29) (Operand.const (Value.int IntKind.i64 1)) t29 (Value.int IntKind.i64 1))) w fun t30 w =>
    M t30 fun t9 =>
    k (Env.p e 9 t9) w) := nr (by kernel_rfl)
theorem c5_33_s (hw : Cur w) : W Try.prog 99 V5 c5_33 Q e w = (opsW (nx Try.prog) mv gdP 99 V5 o5_7 (fun e w => Q .normal e w) o5_7.toList [] e e w) := by rw [(by kernel_rfl : c5_33 = (.region 7 o5_7 false)), W_reg]
theorem o5_8_eq : opsW N M G 99 V5 o5_8 k o5_8.toList [] e e w =
    (M (e 7) fun t31 =>
    N (xcall (Value.func (Fn.func 23) #[] #[]) [(Value.string ⟨#[107]⟩), (Value.string ⟨#[118]⟩)]) w fun t32 w =>
    N (xv (Instr.buildSlice 40 1 ([(0, t32)]).toArray)) w fun t33 w =>
    N (xcall (Value.func (Fn.func 21) #[] #[]) [t31, t33]) w fun t34 w =>
    k e w) := nr (by kernel_rfl)
theorem c5_35_s (hw : Cur w) : W Try.prog 99 V5 c5_35 Q e w = (opsW (nx Try.prog) mv gdP 99 V5 o5_8 (fun e w => Q .normal e w) o5_8.toList [] e e w) := by rw [(by kernel_rfl : c5_35 = (.region 8 o5_8 false)), W_reg]
theorem c5_34_s (hw : Cur w) : W Try.prog 99 V5 c5_34 Q e w = (W Try.prog 99 V5 c5_35 (blockQ 1 Q) e w) := by rw [(by kernel_rfl : c5_34 = .block 1 c5_35), W_block]
theorem c5_32_s (hw : Cur w) : W Try.prog 99 V5 c5_32 Q e w = (W Try.prog 99 V5 c5_34 (seqQ (fun e w => W Try.prog 99 V5 c5_33 Q e w) Q) e w) := by rw [(by kernel_rfl : c5_32 = .seq c5_34 c5_33), W_seq]
theorem o5_6_eq : opsW N M G 99 V5 o5_6 k o5_6.toList [] e e w =
    (M (e 9) fun t25 =>
    M (e 1) fun t26 =>
    N (xv (convert 5 3 t26)) w fun t27 w =>
    N (xv (xbin BinOp.lss 3 (Operand.tmp 25) (Operand.tmp 27) t25 t27)) w fun t28 w =>
    k (Env.p e 28 t28) w) := nr (by kernel_rfl)
theorem c5_37_v : opV V5 (.tmp 28) = true := by kernel_rfl
theorem c5_37_s (hw : Cur w) : W Try.prog 99 V5 c5_37 Q e w = (condP (ev e (.tmp 28)) (Q .normal e w) (Q (.exit 0) e w)) := by rw [(by kernel_rfl : c5_37 = .cond (.tmp 28) Code.skip (Code.exit 0)), W_cond, c5_37_v, cond_true]; simp only [W_ret, W_skip, W_exit, W_label]
theorem c5_36_s (hw : Cur w) : W Try.prog 99 V5 c5_36 Q e w = (opsW (nx Try.prog) mv gdP 99 V5 o5_6 (fun e w => W Try.prog 99 V5 c5_37 Q e w) o5_6.toList [] e e w) := by rw [(by kernel_rfl : c5_36 = .seq (.region 6 o5_6 false) c5_37), W_seq_reg]
theorem c5_31_s (hw : Cur w) : W Try.prog 99 V5 c5_31 Q e w = (W Try.prog 99 V5 c5_36 (seqQ (fun e w => W Try.prog 99 V5 c5_32 Q e w) Q) e w) := by rw [(by kernel_rfl : c5_31 = .seq c5_36 c5_32), W_seq]
theorem c5_30_s (hw : Cur w) : W Try.prog 99 V5 c5_30 Q e w = (LoopP (fun e w k => W Try.prog 99 V5 c5_31 (seqQ k Q) e w) e w) := by rw [(by kernel_rfl : c5_30 = .loop c5_31), W_loop]
theorem c5_29_s (hw : Cur w) : W Try.prog 99 V5 c5_29 Q e w = (W Try.prog 99 V5 c5_30 (blockQ 0 Q) e w) := by rw [(by kernel_rfl : c5_29 = .block 0 c5_30), W_block]
theorem c5_28_s (hw : Cur w) : W Try.prog 99 V5 c5_28 Q e w = (opsW (nx Try.prog) mv gdP 99 V5 o5_5 (fun e w => W Try.prog 99 V5 c5_29 Q e w) o5_5.toList [] e e w) := by rw [(by kernel_rfl : c5_28 = .seq (.region 5 o5_5 false) c5_29), W_seq_reg]
theorem c5_4_s (hw : Cur w) : W Try.prog 99 V5 c5_4 Q e w = (W Try.prog 99 V5 c5_28 (seqQ (fun e w => W Try.prog 99 V5 c5_5 Q e w) Q) e w) := by rw [(by kernel_rfl : c5_4 = .seq c5_28 c5_5), W_seq]
theorem c5_3_s (hw : Cur w) : W Try.prog 99 V5 c5_3 Q e w = (opsW (nx Try.prog) mv gdP 99 V5 o5_4 (fun e w => W Try.prog 99 V5 c5_4 Q e w) o5_4.toList [] e e w) := by rw [(by kernel_rfl : c5_3 = .seq (.region 4 o5_4 false) c5_4), W_seq_reg]
theorem c5_2_s (hw : Cur w) : W Try.prog 99 V5 c5_2 Q e w = (opsW (nx Try.prog) mv gdP 99 V5 o5_3 (fun e w => W Try.prog 99 V5 c5_3 Q e w) o5_3.toList [] e e w) := by rw [(by kernel_rfl : c5_2 = .seq (.region 3 o5_3 false) c5_3), W_seq_reg]
theorem o5_1_eq : opsW N M G 99 V5 o5_1 k o5_1.toList [] e e w =
    (N (xcall (Value.func (Fn.func 15) #[] #[]) []) w fun t16 w =>
    N (xv (Op.unary UnOp.not t16)) w fun t17 w =>
    k (Env.p e 17 t17) w) := nr (by kernel_rfl)
theorem o5_2_eq : opsW N M G 99 V5 o5_2 k o5_2.toList [] e e w =
    (M (Value.bool false) fun t6 =>
    k (Env.p e 6 t6) w) := nr (by kernel_rfl)
theorem c5_40_s (hw : Cur w) : W Try.prog 99 V5 c5_40 Q e w = (opsW (nx Try.prog) mv gdP 99 V5 o5_2 (fun e w => Q .ret e w) o5_2.toList [] e e w) := by rw [(by kernel_rfl : c5_40 = .seq (.region 2 o5_2 false) Code.ret), W_seq_reg]; simp only [W_ret, W_skip, W_exit, W_label]
theorem c5_39_v : opV V5 (.tmp 17) = true := by kernel_rfl
theorem c5_39_s (hw : Cur w) : W Try.prog 99 V5 c5_39 Q e w = (condP (ev e (.tmp 17)) (W Try.prog 99 V5 c5_40 Q e w) (Q .normal e w)) := by rw [(by kernel_rfl : c5_39 = .cond (.tmp 17) c5_40 Code.skip), W_cond, c5_39_v, cond_true]; simp only [W_ret, W_skip, W_exit, W_label]
theorem c5_38_s (hw : Cur w) : W Try.prog 99 V5 c5_38 Q e w = (opsW (nx Try.prog) mv gdP 99 V5 o5_1 (fun e w => W Try.prog 99 V5 c5_39 Q e w) o5_1.toList [] e e w) := by rw [(by kernel_rfl : c5_38 = .seq (.region 1 o5_1 false) c5_39), W_seq_reg]
theorem c5_1_s (hw : Cur w) : W Try.prog 99 V5 c5_1 Q e w = (W Try.prog 99 V5 c5_38 (seqQ (fun e w => W Try.prog 99 V5 c5_2 Q e w) Q) e w) := by rw [(by kernel_rfl : c5_1 = .seq c5_38 c5_2), W_seq]
theorem c5_s (hw : Cur w) : W Try.prog 99 V5 c5 Q e w = (opsW (nx Try.prog) mv gdP 99 V5 o5_0 (fun e w => W Try.prog 99 V5 c5_1 Q e w) o5_0.toList [] e e w) := by rw [(by kernel_rfl : c5 = .seq (.region 0 o5_0 false) c5_1), W_seq_reg]
theorem call5 {a0 a1 a2 : Value} {w : World} {R : Value → World → Prop} (h : W Try.prog 99 V5 c5 (retQ Try.prog [.tmp 6] R) (argE [a0, a1, a2]) w) : CallsN Try.prog 5 [a0, a1, a2] w R :=
  callsN_of_W (c := c5) (rs := [.tmp 6]) V5 Try.ntmps5 (by rw [Try.results5]) mixed Try.func5 (by kernel_rfl) (by kernel_rfl) (by kernel_rfl) (by kernel_rfl) (by simp) h
noncomputable def hk5 := And.intro (@o5_0_eq) <| And.intro (@o5_3_eq) <| And.intro (@o5_4_eq) <| And.intro (@o5_9_eq) <| And.intro (@o5_10_eq) <| And.intro (@o5_11_eq) <| And.intro (@o5_14_eq) <| And.intro (@o5_17_eq) <| And.intro (@o5_18_eq) <| And.intro (@o5_23_eq) <| And.intro (@c5_14_s) <| And.intro (@o5_19_eq) <| And.intro (@o5_20_eq) <| And.intro (@c5_18_s) <| And.intro (@o5_21_eq) <| And.intro (@o5_22_eq) <| And.intro (@c5_21_s) <| And.intro (@c5_20_s) <| And.intro (@c5_19_s) <| And.intro (@c5_17_s) <| And.intro (@c5_16_s) <| And.intro (@c5_15_s) <| And.intro (@c5_13_s) <| And.intro (@c5_12_s) <| And.intro (@c5_11_s) <| And.intro (@o5_15_eq) <| And.intro (@o5_16_eq) <| And.intro (@c5_24_s) <| And.intro (@c5_23_s) <| And.intro (@c5_22_s) <| And.intro (@c5_10_s) <| And.intro (@c5_9_s) <| And.intro (@o5_12_eq) <| And.intro (@o5_13_eq) <| And.intro (@c5_27_s) <| And.intro (@c5_26_s) <| And.intro (@c5_25_s) <| And.intro (@c5_8_s) <| And.intro (@c5_7_s) <| And.intro (@c5_6_s) <| And.intro (@c5_5_s) <| And.intro (@o5_5_eq) <| And.intro (@o5_7_eq) <| And.intro (@c5_33_s) <| And.intro (@o5_8_eq) <| And.intro (@c5_35_s) <| And.intro (@c5_34_s) <| And.intro (@c5_32_s) <| And.intro (@o5_6_eq) <| And.intro (@c5_37_s) <| And.intro (@c5_36_s) <| And.intro (@c5_31_s) <| And.intro (@c5_30_s) <| And.intro (@c5_29_s) <| And.intro (@c5_28_s) <| And.intro (@c5_4_s) <| And.intro (@c5_3_s) <| And.intro (@c5_2_s) <| And.intro (@o5_1_eq) <| And.intro (@o5_2_eq) <| And.intro (@c5_40_s) <| And.intro (@c5_39_s) <| And.intro (@c5_38_s) <| And.intro (@c5_1_s) <| @c5_s
-- K5: ↓hk5
/-! ### (*vouch/store.Store) . Versions -/
def V24 : Nat → Bool := fun i => [0, 1, 4, 6].elem i
noncomputable def c24 : Code := (Try.f24.body.getD .skip)
noncomputable def o24_0 : Array Oper := rO (cL c24)
noncomputable def c24_1 : Code := (cR c24)
noncomputable def c24_2 : Code := (cR c24_1)
noncomputable def o24_3 : Array Oper := rO (cL c24_2)
noncomputable def c24_3 : Code := (cL c24_1)
noncomputable def o24_1 : Array Oper := rO (cL c24_3)
noncomputable def c24_4 : Code := (cR c24_3)
noncomputable def c24_5 : Code := (cL c24_4)
noncomputable def o24_2 : Array Oper := rO (cL c24_5)
theorem o24_0_eq : opsW N M G 15 V24 o24_0 k o24_0.toList [] e e w =
    (M (Value.slice none 0 0) fun t4 =>
    k (Env.p e 4 t4) w) := nr (by kernel_rfl)
theorem o24_3_eq : opsW N M G 15 V24 o24_3 k o24_3.toList [] e e w =
    (M (e 0) fun t7 =>
    N (xnil t7) w fun t8 w =>
    N (xv (Instr.fieldAt 111 t8 0)) w fun t9 w =>
    N (xv (Instr.loadAt 109 t9)) w fun t10 w =>
    M (e 1) fun t11 =>
    N (xv (Instr.lookup 109 t10 t11 false)) w fun t12 w =>
    N (xv (Instr.field 114 t12 0)) w fun t13 w =>
    N (xcall (Value.func (Fn.func 57) #[] #[]) [t13]) w fun t14 w =>
    M t14 fun t4 =>
    k (Env.p e 4 t4) w) := nr (by kernel_rfl)
theorem c24_2_s (hw : Cur w) : W Try.prog 15 V24 c24_2 Q e w = (opsW (nx Try.prog) mv gdP 15 V24 o24_3 (fun e w => Q .ret e w) o24_3.toList [] e e w) := by rw [(by kernel_rfl : c24_2 = .seq (.region 3 o24_3 false) Code.ret), W_seq_reg]; simp only [W_ret, W_skip, W_exit, W_label]
theorem o24_1_eq : opsW N M G 15 V24 o24_1 k o24_1.toList [] e e w =
    (M (e 0) fun t5 =>
    N (xv (xbin BinOp.eql 24 (Operand.tmp 5) (Operand.const (Value.pointer none)) t5 (Value.pointer none))) w fun t6 w =>
    k (Env.p e 6 t6) w) := nr (by kernel_rfl)
theorem o24_2_eq : opsW N M G 15 V24 o24_2 k o24_2.toList [] e e w =
    (M (Value.slice none 0 0) fun t4 =>
    k (Env.p e 4 t4) w) := nr (by kernel_rfl)
theorem c24_5_s (hw : Cur w) : W Try.prog 15 V24 c24_5 Q e w = (opsW (nx Try.prog) mv gdP 15 V24 o24_2 (fun e w => Q .ret e w) o24_2.toList [] e e w) := by rw [(by kernel_rfl : c24_5 = .seq (.region 2 o24_2 false) Code.ret), W_seq_reg]; simp only [W_ret, W_skip, W_exit, W_label]
theorem c24_4_v : opV V24 (.tmp 6) = true := by kernel_rfl
theorem c24_4_s (hw : Cur w) : W Try.prog 15 V24 c24_4 Q e w = (condP (ev e (.tmp 6)) (W Try.prog 15 V24 c24_5 Q e w) (Q .normal e w)) := by rw [(by kernel_rfl : c24_4 = .cond (.tmp 6) c24_5 Code.skip), W_cond, c24_4_v, cond_true]; simp only [W_ret, W_skip, W_exit, W_label]
theorem c24_3_s (hw : Cur w) : W Try.prog 15 V24 c24_3 Q e w = (opsW (nx Try.prog) mv gdP 15 V24 o24_1 (fun e w => W Try.prog 15 V24 c24_4 Q e w) o24_1.toList [] e e w) := by rw [(by kernel_rfl : c24_3 = .seq (.region 1 o24_1 false) c24_4), W_seq_reg]
theorem c24_1_s (hw : Cur w) : W Try.prog 15 V24 c24_1 Q e w = (W Try.prog 15 V24 c24_3 (seqQ (fun e w => W Try.prog 15 V24 c24_2 Q e w) Q) e w) := by rw [(by kernel_rfl : c24_1 = .seq c24_3 c24_2), W_seq]
theorem c24_s (hw : Cur w) : W Try.prog 15 V24 c24 Q e w = (opsW (nx Try.prog) mv gdP 15 V24 o24_0 (fun e w => W Try.prog 15 V24 c24_1 Q e w) o24_0.toList [] e e w) := by rw [(by kernel_rfl : c24 = .seq (.region 0 o24_0 false) c24_1), W_seq_reg]
theorem call24 {a0 a1 : Value} {w : World} {R : Value → World → Prop} (h : W Try.prog 15 V24 c24 (retQ Try.prog [.tmp 4] R) (argE [a0, a1]) w) : CallsN Try.prog 24 [a0, a1] w R :=
  callsN_of_W (c := c24) (rs := [.tmp 4]) V24 Try.ntmps24 (by rw [Try.results24]) mixed Try.func24 (by kernel_rfl) (by kernel_rfl) (by kernel_rfl) (by kernel_rfl) (by simp) h
noncomputable def hk24 := And.intro (@o24_0_eq) <| And.intro (@o24_3_eq) <| And.intro (@c24_2_s) <| And.intro (@o24_1_eq) <| And.intro (@o24_2_eq) <| And.intro (@c24_5_s) <| And.intro (@c24_4_s) <| And.intro (@c24_3_s) <| And.intro (@c24_1_s) <| @c24_s
-- K24: ↓hk24
/-! ### (*vouch/store.Store) . Keys -/
def V49 : Nat → Bool := fun i => [0, 2, 4].elem i
noncomputable def c49 : Code := (Try.f49.body.getD .skip)
noncomputable def o49_0 : Array Oper := rO (cL c49)
noncomputable def c49_1 : Code := (cR c49)
noncomputable def c49_2 : Code := (cR c49_1)
noncomputable def o49_3 : Array Oper := rO (cL c49_2)
noncomputable def c49_3 : Code := (cL c49_1)
noncomputable def o49_1 : Array Oper := rO (cL c49_3)
noncomputable def c49_4 : Code := (cR c49_3)
noncomputable def c49_5 : Code := (cL c49_4)
noncomputable def o49_2 : Array Oper := rO (cL c49_5)
theorem o49_0_eq : opsW N M G 11 V49 o49_0 k o49_0.toList [] e e w =
    (M (Value.slice none 0 0) fun t2 =>
    k (Env.p e 2 t2) w) := nr (by kernel_rfl)
theorem o49_3_eq : opsW N M G 11 V49 o49_3 k o49_3.toList [] e e w =
    (M (e 0) fun t5 =>
    N (xnil t5) w fun t6 w =>
    N (xv (Instr.fieldAt 111 t6 0)) w fun t7 w =>
    N (xv (Instr.loadAt 109 t7)) w fun t8 w =>
    N (xcall (Value.func (Fn.func 81) #[] #[]) [t8]) w fun t9 w =>
    N (xcall (Value.func (Fn.func 80) #[] #[]) [t9]) w fun t10 w =>
    M t10 fun t2 =>
    k (Env.p e 2 t2) w) := nr (by kernel_rfl)
theorem c49_2_s (hw : Cur w) : W Try.prog 11 V49 c49_2 Q e w = (opsW (nx Try.prog) mv gdP 11 V49 o49_3 (fun e w => Q .ret e w) o49_3.toList [] e e w) := by rw [(by kernel_rfl : c49_2 = .seq (.region 3 o49_3 false) Code.ret), W_seq_reg]; simp only [W_ret, W_skip, W_exit, W_label]
theorem o49_1_eq : opsW N M G 11 V49 o49_1 k o49_1.toList [] e e w =
    (M (e 0) fun t3 =>
    N (xv (xbin BinOp.eql 24 (Operand.tmp 3) (Operand.const (Value.pointer none)) t3 (Value.pointer none))) w fun t4 w =>
    k (Env.p e 4 t4) w) := nr (by kernel_rfl)
theorem o49_2_eq : opsW N M G 11 V49 o49_2 k o49_2.toList [] e e w =
    (M (Value.slice none 0 0) fun t2 =>
    k (Env.p e 2 t2) w) := nr (by kernel_rfl)
theorem c49_5_s (hw : Cur w) : W Try.prog 11 V49 c49_5 Q e w = (opsW (nx Try.prog) mv gdP 11 V49 o49_2 (fun e w => Q .ret e w) o49_2.toList [] e e w) := by rw [(by kernel_rfl : c49_5 = .seq (.region 2 o49_2 false) Code.ret), W_seq_reg]; simp only [W_ret, W_skip, W_exit, W_label]
theorem c49_4_v : opV V49 (.tmp 4) = true := by kernel_rfl
theorem c49_4_s (hw : Cur w) : W Try.prog 11 V49 c49_4 Q e w = (condP (ev e (.tmp 4)) (W Try.prog 11 V49 c49_5 Q e w) (Q .normal e w)) := by rw [(by kernel_rfl : c49_4 = .cond (.tmp 4) c49_5 Code.skip), W_cond, c49_4_v, cond_true]; simp only [W_ret, W_skip, W_exit, W_label]
theorem c49_3_s (hw : Cur w) : W Try.prog 11 V49 c49_3 Q e w = (opsW (nx Try.prog) mv gdP 11 V49 o49_1 (fun e w => W Try.prog 11 V49 c49_4 Q e w) o49_1.toList [] e e w) := by rw [(by kernel_rfl : c49_3 = .seq (.region 1 o49_1 false) c49_4), W_seq_reg]
theorem c49_1_s (hw : Cur w) : W Try.prog 11 V49 c49_1 Q e w = (W Try.prog 11 V49 c49_3 (seqQ (fun e w => W Try.prog 11 V49 c49_2 Q e w) Q) e w) := by rw [(by kernel_rfl : c49_1 = .seq c49_3 c49_2), W_seq]
theorem c49_s (hw : Cur w) : W Try.prog 11 V49 c49 Q e w = (opsW (nx Try.prog) mv gdP 11 V49 o49_0 (fun e w => W Try.prog 11 V49 c49_1 Q e w) o49_0.toList [] e e w) := by rw [(by kernel_rfl : c49 = .seq (.region 0 o49_0 false) c49_1), W_seq_reg]
theorem call49 {a0 : Value} {w : World} {R : Value → World → Prop} (h : W Try.prog 11 V49 c49 (retQ Try.prog [.tmp 2] R) (argE [a0]) w) : CallsN Try.prog 49 [a0] w R :=
  callsN_of_W (c := c49) (rs := [.tmp 2]) V49 Try.ntmps49 (by rw [Try.results49]) mixed Try.func49 (by kernel_rfl) (by kernel_rfl) (by kernel_rfl) (by kernel_rfl) (by simp) h
noncomputable def hk49 := And.intro (@o49_0_eq) <| And.intro (@o49_3_eq) <| And.intro (@c49_2_s) <| And.intro (@o49_1_eq) <| And.intro (@o49_2_eq) <| And.intro (@c49_5_s) <| And.intro (@c49_4_s) <| And.intro (@c49_3_s) <| And.intro (@c49_1_s) <| @c49_s
-- K49: ↓hk49
/-! ### (*vouch/store.Store) . Clone -/
def V52 : Nat → Bool := fun i => [0, 2, 4].elem i
noncomputable def c52 : Code := (Try.f52.body.getD .skip)
noncomputable def o52_0 : Array Oper := rO (cL c52)
noncomputable def c52_1 : Code := (cR c52)
noncomputable def c52_2 : Code := (cR c52_1)
noncomputable def o52_3 : Array Oper := rO (cL c52_2)
noncomputable def c52_3 : Code := (cL c52_1)
noncomputable def o52_1 : Array Oper := rO (cL c52_3)
noncomputable def c52_4 : Code := (cR c52_3)
noncomputable def c52_5 : Code := (cL c52_4)
noncomputable def o52_2 : Array Oper := rO (cL c52_5)
theorem o52_0_eq : opsW N M G 20 V52 o52_0 k o52_0.toList [] e e w =
    (M (Value.pointer none) fun t2 =>
    k (Env.p e 2 t2) w) := nr (by kernel_rfl)
theorem o52_3_eq : drawGo N T M G H 20 V52 o52_3 S k o52_3.size true (Array.replicate o52_3.size false) [] e e w =
    (M (e 0) fun t5 =>
    T (xnil t5) fun t6 =>
    T (xv (Instr.fieldAt 111 t6 0)) fun t7 =>
    T (xv (Instr.loadAt 109 t7)) fun t8 =>
    M (e 0) fun t10 =>
    T (xnil t10) fun t11 =>
    T (xv (Instr.fieldAt 111 t11 1)) fun t12 =>
    T (xv (Instr.loadAt 3 t12)) fun t13 =>
    M (e 0) fun t14 =>
    T (xnil t14) fun t15 =>
    T (xv (Instr.fieldAt 111 t15 2)) fun t16 =>
    T (xv (Instr.loadAt 2 t16)) fun t17 =>
    N (xcall (Value.func (Fn.func 83) #[] #[]) [t8]) w fun t9 w =>
    S w ∧ (T (xv (Instr.build 111 ([(0, t9), (1, t13), (2, t17)]).toArray)) fun t18 =>
    N (xv (Instr.box 111 t18)) w fun t19 w =>
    S w ∧ (M t19 fun t2 =>
    k (Env.p e 2 t2) w))) := nr (by kernel_rfl)
theorem c52_2_s (hw : Cur w) : W Try.prog 20 V52 c52_2 Q e w = (∃ S : World → Prop, S w.drew ∧ drawGo (nx Try.prog) (takeP Try.prog S) mv gdP gdT 20 V52 o52_3 S (fun e w => Q .ret e w) o52_3.size true (Array.replicate o52_3.size false) [] e e w.drew) := by rw [(by kernel_rfl : c52_2 = .seq (.region 3 o52_3 true) Code.ret), W_seq_regD]; simp only [W_ret, W_skip, W_exit, W_label]
theorem o52_1_eq : opsW N M G 20 V52 o52_1 k o52_1.toList [] e e w =
    (M (e 0) fun t3 =>
    N (xv (xbin BinOp.eql 24 (Operand.tmp 3) (Operand.const (Value.pointer none)) t3 (Value.pointer none))) w fun t4 w =>
    k (Env.p e 4 t4) w) := nr (by kernel_rfl)
theorem o52_2_eq : opsW N M G 20 V52 o52_2 k o52_2.toList [] e e w =
    (M (Value.pointer none) fun t2 =>
    k (Env.p e 2 t2) w) := nr (by kernel_rfl)
theorem c52_5_s (hw : Cur w) : W Try.prog 20 V52 c52_5 Q e w = (opsW (nx Try.prog) mv gdP 20 V52 o52_2 (fun e w => Q .ret e w) o52_2.toList [] e e w) := by rw [(by kernel_rfl : c52_5 = .seq (.region 2 o52_2 false) Code.ret), W_seq_reg]; simp only [W_ret, W_skip, W_exit, W_label]
theorem c52_4_v : opV V52 (.tmp 4) = true := by kernel_rfl
theorem c52_4_s (hw : Cur w) : W Try.prog 20 V52 c52_4 Q e w = (condP (ev e (.tmp 4)) (W Try.prog 20 V52 c52_5 Q e w) (Q .normal e w)) := by rw [(by kernel_rfl : c52_4 = .cond (.tmp 4) c52_5 Code.skip), W_cond, c52_4_v, cond_true]; simp only [W_ret, W_skip, W_exit, W_label]
theorem c52_3_s (hw : Cur w) : W Try.prog 20 V52 c52_3 Q e w = (opsW (nx Try.prog) mv gdP 20 V52 o52_1 (fun e w => W Try.prog 20 V52 c52_4 Q e w) o52_1.toList [] e e w) := by rw [(by kernel_rfl : c52_3 = .seq (.region 1 o52_1 false) c52_4), W_seq_reg]
theorem c52_1_s (hw : Cur w) : W Try.prog 20 V52 c52_1 Q e w = (W Try.prog 20 V52 c52_3 (seqQ (fun e w => W Try.prog 20 V52 c52_2 Q e w) Q) e w) := by rw [(by kernel_rfl : c52_1 = .seq c52_3 c52_2), W_seq]
theorem c52_s (hw : Cur w) : W Try.prog 20 V52 c52 Q e w = (opsW (nx Try.prog) mv gdP 20 V52 o52_0 (fun e w => W Try.prog 20 V52 c52_1 Q e w) o52_0.toList [] e e w) := by rw [(by kernel_rfl : c52 = .seq (.region 0 o52_0 false) c52_1), W_seq_reg]
theorem call52 {a0 : Value} {w : World} {R : Value → World → Prop} (h : W Try.prog 20 V52 c52 (retQ Try.prog [.tmp 2] R) (argE [a0]) w) : CallsN Try.prog 52 [a0] w R :=
  callsN_of_W (c := c52) (rs := [.tmp 2]) V52 Try.ntmps52 (by rw [Try.results52]) mixed Try.func52 (by kernel_rfl) (by kernel_rfl) (by kernel_rfl) (by kernel_rfl) (by simp) h
noncomputable def hk52 := And.intro (@o52_0_eq) <| And.intro (@o52_3_eq) <| And.intro (@c52_2_s) <| And.intro (@o52_1_eq) <| And.intro (@o52_2_eq) <| And.intro (@c52_5_s) <| And.intro (@c52_4_s) <| And.intro (@c52_3_s) <| And.intro (@c52_1_s) <| @c52_s
-- K52: ↓hk52
/-! ### vouch/vouchlaw05.StoreNone -/
def V14 : Nat → Bool := fun i => [0, 1, 2, 3, 4, 5, 6, 7, 9].elem i
noncomputable def c14 : Code := (Try.f14.body.getD .skip)
noncomputable def o14_0 : Array Oper := rO (cL c14)
noncomputable def c14_1 : Code := (cR c14)
noncomputable def c14_2 : Code := (cR c14_1)
noncomputable def o14_3 : Array Oper := rO (cL c14_2)
noncomputable def c14_3 : Code := (cR c14_2)
noncomputable def o14_4 : Array Oper := rO (cL c14_3)
noncomputable def c14_4 : Code := (cR c14_3)
noncomputable def o14_5 : Array Oper := rO (cL c14_4)
noncomputable def c14_5 : Code := (cR c14_4)
noncomputable def o14_6 : Array Oper := rO (cL c14_5)
noncomputable def c14_6 : Code := (cL c14_1)
noncomputable def o14_1 : Array Oper := rO (cL c14_6)
noncomputable def c14_7 : Code := (cR c14_6)
noncomputable def c14_8 : Code := (cL c14_7)
noncomputable def o14_2 : Array Oper := rO (cL c14_8)
theorem o14_0_eq : opsW N M G 72 V14 o14_0 k o14_0.toList [] e e w =
    (N (xv (Instr.box 95 (e 0))) w fun t1 w =>
    M (Value.bool false) fun t2 =>
    k (Env.p (Env.p e 1 t1) 2 t2) w) := nr (by kernel_rfl)
theorem o14_3_eq : opsW N M G 72 V14 o14_3 k o14_3.toList [] e e w =
    (M (Value.pointer none) fun t3 =>
    k (Env.p e 3 t3) w) := nr (by kernel_rfl)
theorem o14_4_eq : opsW N M G 72 V14 o14_4 k o14_4.toList [] e e w =
    (M (e 3) fun t11 =>
    N (xv (Instr.fieldAt 95 (e 1) 1)) w fun t12 w =>
    N (xv (Instr.loadAt 40 t12)) w fun t13 w =>
    N (xcall (Value.func (Fn.func 21) #[] #[]) [t11, t13]) w fun t14 w =>
    M t14 fun t10 =>
    N (xv (Instr.extract t10 0)) w fun t15 w =>
    N (xv (Instr.extract t10 1)) w fun t16 w =>
    M t15 fun t4 =>
    M t16 fun t5 =>
    k (Env.p (Env.p e 4 t4) 5 t5) w) := nr (by kernel_rfl)
theorem o14_5_eq : opsW N M G 72 V14 o14_5 k o14_5.toList [] e e w =
    (M (e 3) fun t18 =>
    N (xv (Instr.fieldAt 95 (e 1) 2)) w fun t19 w =>
    N (xv (Instr.loadAt 9 t19)) w fun t20 w =>
    N (xv (Instr.fieldAt 95 (e 1) 3)) w fun t21 w =>
    N (xv (Instr.loadAt 2 t21)) w fun t22 w =>
    N (xcall (Value.func (Fn.func 18) #[] #[]) [t18, t20, t22]) w fun t23 w =>
    M t23 fun t17 =>
    N (xv (Instr.extract t17 0)) w fun t24 w =>
    N (xv (Instr.extract t17 1)) w fun t25 w =>
    N (xv (Instr.alloc 31 true (.tuple #[]))) w fun t6 w =>
    N (xu (Instr.storeAt 31 t6 t24)) w fun _ w =>
    M t25 fun t7 =>
    k (Env.p (Env.p e 6 t6) 7 t7) w) := nr (by kernel_rfl)
theorem o14_6_eq : opsW N M G 72 V14 o14_6 k o14_6.toList [] e e w =
    (M (e 4) fun t26 =>
    N (xv (xbin BinOp.eql 2 (Operand.tmp 26) (Operand.const (Value.int IntKind.i64 0)) t26 (Value.int IntKind.i64 0))) w fun t27 w =>
    M t27 fun t28 =>
    G (isB t28 true) (fun K => M (e 5) fun v => K v w) (fun t29 w =>
    G (isB t28 true) (fun K => N (xv (xbin BinOp.eql 3 (Operand.tmp 29) (Operand.const (Value.int IntKind.i64 3)) t29 (Value.int IntKind.i64 3))) w K) (fun t30 w =>
    N (xpick t28 t30 (Value.bool false)) w fun t31 w =>
    M t31 fun t32 =>
    G (isB t32 true) (fun K => N (xv (Instr.loadAt 31 (e 6))) w K) (fun t33 w =>
    G (isB t32 true) (fun K => N (xv (Instr.build 31 ([]).toArray)) w K) (fun t34 w =>
    G (isB t32 true) (fun K => N (xv (xbin BinOp.eql 31 (Operand.tmp 33) (Operand.tmp 34) t33 t34)) w K) (fun t35 w =>
    N (xpick t32 t35 (Value.bool false)) w fun t36 w =>
    M t36 fun t37 =>
    G (isB t37 true) (fun K => M (e 7) fun v => K v w) (fun t38 w =>
    G (isB t37 true) (fun K => N (xv (xbin BinOp.eql 3 (Operand.tmp 38) (Operand.const (Value.int IntKind.i64 3)) t38 (Value.int IntKind.i64 3))) w K) (fun t39 w =>
    N (xpick t37 t39 (Value.bool false)) w fun t40 w =>
    M t40 fun t41 =>
    G (isB t41 true) (fun K => M (e 3) fun v => K v w) (fun t42 w =>
    G (isB t41 true) (fun K => N (xcall (Value.func (Fn.func 22) #[] #[]) [t42]) w K) (fun t43 w =>
    G (isB t41 true) (fun K => N (xv (xbin BinOp.eql 2 (Operand.tmp 43) (Operand.const (Value.int IntKind.i64 0)) t43 (Value.int IntKind.i64 0))) w K) (fun t44 w =>
    N (xpick t41 t44 (Value.bool false)) w fun t45 w =>
    M t45 fun t46 =>
    G (isB t46 true) (fun K => M (e 3) fun v => K v w) (fun t47 w =>
    G (isB t46 true) (fun K => N (xv (Instr.fieldAt 95 (e 1) 2)) w K) (fun t48 w =>
    G (isB t46 true) (fun K => N (xv (Instr.loadAt 9 t48)) w K) (fun t49 w =>
    G (isB t46 true) (fun K => N (xcall (Value.func (Fn.func 19) #[] #[]) [t47, t49]) w K) (fun t50 w =>
    G (isB t46 true) (fun K => N (xv (xbin BinOp.eql 2 (Operand.tmp 50) (Operand.const (Value.int IntKind.i64 0)) t50 (Value.int IntKind.i64 0))) w K) (fun t51 w =>
    N (xpick t46 t51 (Value.bool false)) w fun t52 w =>
    M t52 fun t53 =>
    G (isB t53 true) (fun K => M (e 3) fun v => K v w) (fun t54 w =>
    G (isB t53 true) (fun K => N (xv (Instr.fieldAt 95 (e 1) 2)) w K) (fun t55 w =>
    G (isB t53 true) (fun K => N (xv (Instr.loadAt 9 t55)) w K) (fun t56 w =>
    G (isB t53 true) (fun K => N (xcall (Value.func (Fn.func 24) #[] #[]) [t54, t56]) w K) (fun t57 w =>
    G (isB t53 true) (fun K => N (builtin Builtin.len #[46] 3 ([false]).toArray ([t57]).toArray) w K) (fun t58 w =>
    G (isB t53 true) (fun K => N (xv (xbin BinOp.eql 3 (Operand.tmp 58) (Operand.const (Value.int IntKind.i64 0)) t58 (Value.int IntKind.i64 0))) w K) (fun t59 w =>
    N (xpick t53 t59 (Value.bool false)) w fun t60 w =>
    M t60 fun t61 =>
    G (isB t61 true) (fun K => M (e 3) fun v => K v w) (fun t62 w =>
    G (isB t61 true) (fun K => N (xcall (Value.func (Fn.func 49) #[] #[]) [t62]) w K) (fun t63 w =>
    G (isB t61 true) (fun K => N (builtin Builtin.len #[52] 3 ([false]).toArray ([t63]).toArray) w K) (fun t64 w =>
    G (isB t61 true) (fun K => N (xv (xbin BinOp.eql 3 (Operand.tmp 64) (Operand.const (Value.int IntKind.i64 0)) t64 (Value.int IntKind.i64 0))) w K) (fun t65 w =>
    N (xpick t61 t65 (Value.bool false)) w fun t66 w =>
    M t66 fun t67 =>
    G (isB t67 true) (fun K => M (e 3) fun v => K v w) (fun t68 w =>
    G (isB t67 true) (fun K => N (xcall (Value.func (Fn.func 52) #[] #[]) [t68]) w K) (fun t69 w =>
    G (isB t67 true) (fun K => N (xv (xbin BinOp.eql 24 (Operand.tmp 69) (Operand.const (Value.pointer none)) t69 (Value.pointer none))) w K) (fun t70 w =>
    N (xpick t67 t70 (Value.bool false)) w fun t71 w =>
    M t71 fun t2 =>
    k (Env.p e 2 t2) w) w) w) w) w) w) w) w) w) w) w) w) w) w) w) w) w) w) w) w) w) w) w) w) w) w) w) w) w) := nr (by kernel_rfl)
theorem c14_5_s (hw : Cur w) : W Try.prog 72 V14 c14_5 Q e w = (opsW (nx Try.prog) mv gdP 72 V14 o14_6 (fun e w => Q .ret e w) o14_6.toList [] e e w) := by rw [(by kernel_rfl : c14_5 = .seq (.region 6 o14_6 false) Code.ret), W_seq_reg]; simp only [W_ret, W_skip, W_exit, W_label]
theorem c14_4_s (hw : Cur w) : W Try.prog 72 V14 c14_4 Q e w = (opsW (nx Try.prog) mv gdP 72 V14 o14_5 (fun e w => W Try.prog 72 V14 c14_5 Q e w) o14_5.toList [] e e w) := by rw [(by kernel_rfl : c14_4 = .seq (.region 5 o14_5 false) c14_5), W_seq_reg]
theorem c14_3_s (hw : Cur w) : W Try.prog 72 V14 c14_3 Q e w = (opsW (nx Try.prog) mv gdP 72 V14 o14_4 (fun e w => W Try.prog 72 V14 c14_4 Q e w) o14_4.toList [] e e w) := by rw [(by kernel_rfl : c14_3 = .seq (.region 4 o14_4 false) c14_4), W_seq_reg]
theorem c14_2_s (hw : Cur w) : W Try.prog 72 V14 c14_2 Q e w = (opsW (nx Try.prog) mv gdP 72 V14 o14_3 (fun e w => W Try.prog 72 V14 c14_3 Q e w) o14_3.toList [] e e w) := by rw [(by kernel_rfl : c14_2 = .seq (.region 3 o14_3 false) c14_3), W_seq_reg]
theorem o14_1_eq : opsW N M G 72 V14 o14_1 k o14_1.toList [] e e w =
    (N (xcall (Value.func (Fn.func 15) #[] #[]) []) w fun t8 w =>
    N (xv (Op.unary UnOp.not t8)) w fun t9 w =>
    k (Env.p e 9 t9) w) := nr (by kernel_rfl)
theorem o14_2_eq : opsW N M G 72 V14 o14_2 k o14_2.toList [] e e w =
    (M (Value.bool false) fun t2 =>
    k (Env.p e 2 t2) w) := nr (by kernel_rfl)
theorem c14_8_s (hw : Cur w) : W Try.prog 72 V14 c14_8 Q e w = (opsW (nx Try.prog) mv gdP 72 V14 o14_2 (fun e w => Q .ret e w) o14_2.toList [] e e w) := by rw [(by kernel_rfl : c14_8 = .seq (.region 2 o14_2 false) Code.ret), W_seq_reg]; simp only [W_ret, W_skip, W_exit, W_label]
theorem c14_7_v : opV V14 (.tmp 9) = true := by kernel_rfl
theorem c14_7_s (hw : Cur w) : W Try.prog 72 V14 c14_7 Q e w = (condP (ev e (.tmp 9)) (W Try.prog 72 V14 c14_8 Q e w) (Q .normal e w)) := by rw [(by kernel_rfl : c14_7 = .cond (.tmp 9) c14_8 Code.skip), W_cond, c14_7_v, cond_true]; simp only [W_ret, W_skip, W_exit, W_label]
theorem c14_6_s (hw : Cur w) : W Try.prog 72 V14 c14_6 Q e w = (opsW (nx Try.prog) mv gdP 72 V14 o14_1 (fun e w => W Try.prog 72 V14 c14_7 Q e w) o14_1.toList [] e e w) := by rw [(by kernel_rfl : c14_6 = .seq (.region 1 o14_1 false) c14_7), W_seq_reg]
theorem c14_1_s (hw : Cur w) : W Try.prog 72 V14 c14_1 Q e w = (W Try.prog 72 V14 c14_6 (seqQ (fun e w => W Try.prog 72 V14 c14_2 Q e w) Q) e w) := by rw [(by kernel_rfl : c14_1 = .seq c14_6 c14_2), W_seq]
theorem c14_s (hw : Cur w) : W Try.prog 72 V14 c14 Q e w = (opsW (nx Try.prog) mv gdP 72 V14 o14_0 (fun e w => W Try.prog 72 V14 c14_1 Q e w) o14_0.toList [] e e w) := by rw [(by kernel_rfl : c14 = .seq (.region 0 o14_0 false) c14_1), W_seq_reg]
theorem call14 {a0 : Value} {w : World} {R : Value → World → Prop} (h : W Try.prog 72 V14 c14 (retQ Try.prog [.tmp 2] R) (argE [a0]) w) : CallsN Try.prog 14 [a0] w R :=
  callsN_of_W (c := c14) (rs := [.tmp 2]) V14 Try.ntmps14 (by rw [Try.results14]) mixed Try.func14 (by kernel_rfl) (by kernel_rfl) (by kernel_rfl) (by kernel_rfl) (by simp) h
noncomputable def hk14 := And.intro (@o14_0_eq) <| And.intro (@o14_3_eq) <| And.intro (@o14_4_eq) <| And.intro (@o14_5_eq) <| And.intro (@o14_6_eq) <| And.intro (@c14_5_s) <| And.intro (@c14_4_s) <| And.intro (@c14_3_s) <| And.intro (@c14_2_s) <| And.intro (@o14_1_eq) <| And.intro (@o14_2_eq) <| And.intro (@c14_8_s) <| And.intro (@c14_7_s) <| And.intro (@c14_6_s) <| And.intro (@c14_1_s) <| @c14_s
-- K14: ↓hk14
end
end Go.Proofs.Ytenokheiindfkaa
