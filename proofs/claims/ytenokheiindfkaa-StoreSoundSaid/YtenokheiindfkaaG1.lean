/- The equations of the code of some functions, written by the printer gen.py: each is checked by the kernel. -/
import Derived.Test.YtenokheiindfkaaG0
set_option linter.unusedVariables false
set_option linter.unusedSimpArgs false
set_option maxRecDepth 100000
namespace Go.Proofs.Ytenokheiindfkaa
open Go.VW
noncomputable section
/-! ### vouch/vouchlaw05.fixed -/
def V15 : Nat → Bool := fun i => [0, 1, 2, 3, 4, 5, 6, 7, 9, 12].elem i
noncomputable def c15 : Code := (Try.f15.body.getD .skip)
noncomputable def o15_0 : Array Oper := rO (cL (Try.f15.body.getD .skip))
noncomputable def c15R : Code := (cR (Try.f15.body.getD .skip))
noncomputable def o15_1 : Array Oper := rO (cL (cR (Try.f15.body.getD .skip)))
noncomputable def c15RR : Code := (cR (cR (Try.f15.body.getD .skip)))
noncomputable def c15RRR : Code := (cR (cR (cR (Try.f15.body.getD .skip))))
noncomputable def o15_4 : Array Oper := rO (cL (cR (cR (cR (Try.f15.body.getD .skip)))))
noncomputable def c15RRRR : Code := (cR (cR (cR (cR (Try.f15.body.getD .skip)))))
noncomputable def o15_5 : Array Oper := rO (cL (cR (cR (cR (cR (Try.f15.body.getD .skip))))))
noncomputable def c15RRRRR : Code := (cR (cR (cR (cR (cR (Try.f15.body.getD .skip))))))
noncomputable def o15_6 : Array Oper := rO (cL (cR (cR (cR (cR (cR (Try.f15.body.getD .skip)))))))
noncomputable def c15RRRRRR : Code := (cR (cR (cR (cR (cR (cR (Try.f15.body.getD .skip)))))))
noncomputable def o15_7 : Array Oper := rO (cL (cR (cR (cR (cR (cR (cR (Try.f15.body.getD .skip))))))))
noncomputable def c15RRRRRRR : Code := (cR (cR (cR (cR (cR (cR (cR (Try.f15.body.getD .skip))))))))
noncomputable def o15_8 : Array Oper := rO (cL (cR (cR (cR (cR (cR (cR (cR (Try.f15.body.getD .skip)))))))))
noncomputable def c15RRL : Code := (cL (cR (cR (Try.f15.body.getD .skip))))
noncomputable def o15_2 : Array Oper := rO (cL (cL (cR (cR (Try.f15.body.getD .skip)))))
noncomputable def c15RRLR : Code := (cR (cL (cR (cR (Try.f15.body.getD .skip)))))
noncomputable def c15RRLRL : Code := (cL (cR (cL (cR (cR (Try.f15.body.getD .skip))))))
noncomputable def o15_3 : Array Oper := rO (cL (cL (cR (cL (cR (cR (Try.f15.body.getD .skip)))))))
theorem o15_0_eq (N : Sem Next → World → (Value → World → Prop) → Prop) (M : Value → (Value → Prop) → Prop) (G : Bool → ((Value → World → Prop) → Prop) → (Value → World → Prop) → World → Prop) (k : Env → World → Prop) (e : Env) (w : World) : opsW N M G 71 V15 o15_0 k o15_0.toList [] e e w =
    (M (Value.bool false) fun t0 =>
    k (Env.p e 0 t0) w) := nr (by kernel_rfl)
theorem o15_1_eq (N : Sem Next → World → (Value → World → Prop) → Prop) (M : Value → (Value → Prop) → Prop) (G : Bool → ((Value → World → Prop) → Prop) → (Value → World → Prop) → World → Prop) (k : Env → World → Prop) (e : Env) (w : World) : opsW N M G 71 V15 o15_1 k o15_1.toList [] e e w =
    (N (xcall (Value.func (Fn.func 16) #[] #[]) [(Value.int IntKind.i64 2)]) w fun t10 w =>
    M t10 fun t1 =>
    k (Env.p e 1 t1) w) := nr (by kernel_rfl)
theorem o15_4_eq (N : Sem Next → World → (Value → World → Prop) → Prop) (M : Value → (Value → Prop) → Prop) (G : Bool → ((Value → World → Prop) → Prop) → (Value → World → Prop) → World → Prop) (k : Env → World → Prop) (e : Env) (w : World) : opsW N M G 71 V15 o15_4 k o15_4.toList [] e e w =
    (M (e 1) fun t14 =>
    N (xcall (Value.func (Fn.func 23) #[] #[]) [(Value.string ⟨#[97]⟩), (Value.string ⟨#[49]⟩)]) w fun t15 w =>
    N (xv (Instr.buildSlice 40 1 ([(0, t15)]).toArray)) w fun t16 w =>
    N (xcall (Value.func (Fn.func 21) #[] #[]) [t14, t16]) w fun t17 w =>
    M t17 fun t13 =>
    N (xv (Instr.extract t13 0)) w fun t18 w =>
    N (xv (Instr.extract t13 1)) w fun t19 w =>
    M t18 fun t2 =>
    M t19 fun t3 =>
    k (Env.p (Env.p e 2 t2) 3 t3) w) := nr (by kernel_rfl)
theorem o15_5_eq (N : Sem Next → World → (Value → World → Prop) → Prop) (M : Value → (Value → Prop) → Prop) (G : Bool → ((Value → World → Prop) → Prop) → (Value → World → Prop) → World → Prop) (k : Env → World → Prop) (e : Env) (w : World) : opsW N M G 71 V15 o15_5 k o15_5.toList [] e e w =
    (M (e 1) fun t21 =>
    N (xcall (Value.func (Fn.func 23) #[] #[]) [(Value.string ⟨#[97]⟩), (Value.string ⟨#[50]⟩)]) w fun t22 w =>
    N (xcall (Value.func (Fn.func 23) #[] #[]) [(Value.string ⟨#[98]⟩), (Value.string ⟨#[120]⟩)]) w fun t23 w =>
    N (xv (Instr.buildSlice 40 2 ([(0, t22), (1, t23)]).toArray)) w fun t24 w =>
    N (xcall (Value.func (Fn.func 21) #[] #[]) [t21, t24]) w fun t25 w =>
    M t25 fun t20 =>
    N (xv (Instr.extract t20 0)) w fun t26 w =>
    N (xv (Instr.extract t20 1)) w fun t27 w =>
    M t26 fun t4 =>
    M t27 fun t5 =>
    k (Env.p (Env.p e 4 t4) 5 t5) w) := nr (by kernel_rfl)
theorem o15_6_eq (N : Sem Next → World → (Value → World → Prop) → Prop) (M : Value → (Value → Prop) → Prop) (G : Bool → ((Value → World → Prop) → Prop) → (Value → World → Prop) → World → Prop) (k : Env → World → Prop) (e : Env) (w : World) : opsW N M G 71 V15 o15_6 k o15_6.toList [] e e w =
    (M (e 1) fun t29 =>
    N (xcall (Value.func (Fn.func 18) #[] #[]) [t29, (Value.string ⟨#[97]⟩), (Value.int IntKind.i64 1)]) w fun t30 w =>
    M t30 fun t28 =>
    N (xv (Instr.extract t28 0)) w fun t31 w =>
    N (xv (Instr.extract t28 1)) w fun t32 w =>
    N (xv (Instr.alloc 31 true (.tuple #[]))) w fun t6 w =>
    N (xu (Instr.storeAt 31 t6 t31)) w fun _ w =>
    M t32 fun t7 =>
    k (Env.p (Env.p e 6 t6) 7 t7) w) := nr (by kernel_rfl)
theorem o15_7_eq (N : Sem Next → World → (Value → World → Prop) → Prop) (M : Value → (Value → Prop) → Prop) (G : Bool → ((Value → World → Prop) → Prop) → (Value → World → Prop) → World → Prop) (k : Env → World → Prop) (e : Env) (w : World) : opsW N M G 71 V15 o15_7 k o15_7.toList [] e e w =
    (M (e 1) fun t34 =>
    N (xcall (Value.func (Fn.func 18) #[] #[]) [t34, (Value.string ⟨#[97]⟩), (Value.int IntKind.i64 3)]) w fun t35 w =>
    M t35 fun t33 =>
    N (xv (Instr.extract t33 0)) w fun t36 w =>
    N (xv (Instr.extract t33 1)) w fun t37 w =>
    N (xv (Instr.alloc 31 true (.tuple #[]))) w fun t8 w =>
    N (xu (Instr.storeAt 31 t8 t36)) w fun _ w =>
    M t37 fun t9 =>
    k (Env.p e 9 t9) w) := nr (by kernel_rfl)
theorem o15_8_eq (N : Sem Next → World → (Value → World → Prop) → Prop) (M : Value → (Value → Prop) → Prop) (G : Bool → ((Value → World → Prop) → Prop) → (Value → World → Prop) → World → Prop) (k : Env → World → Prop) (e : Env) (w : World) : opsW N M G 71 V15 o15_8 k o15_8.toList [] e e w =
    (M (e 2) fun t38 =>
    N (xv (xbin BinOp.eql 2 (Operand.tmp 38) (Operand.const (Value.int IntKind.i64 1)) t38 (Value.int IntKind.i64 1))) w fun t39 w =>
    M t39 fun t40 =>
    G (isB t40 true) (fun K => M (e 3) fun v => K v w) (fun t41 w =>
    G (isB t40 true) (fun K => N (xv (xbin BinOp.eql 32 (Operand.tmp 41) (Operand.const (Value.int IntKind.i64 0)) t41 (Value.int IntKind.i64 0))) w K) (fun t42 w =>
    N (xpick t40 t42 (Value.bool false)) w fun t43 w =>
    M t43 fun t44 =>
    G (isB t44 true) (fun K => M (e 4) fun v => K v w) (fun t45 w =>
    G (isB t44 true) (fun K => N (xv (xbin BinOp.eql 2 (Operand.tmp 45) (Operand.const (Value.int IntKind.i64 2)) t45 (Value.int IntKind.i64 2))) w K) (fun t46 w =>
    N (xpick t44 t46 (Value.bool false)) w fun t47 w =>
    M t47 fun t48 =>
    G (isB t48 true) (fun K => M (e 5) fun v => K v w) (fun t49 w =>
    G (isB t48 true) (fun K => N (xv (xbin BinOp.eql 32 (Operand.tmp 49) (Operand.const (Value.int IntKind.i64 0)) t49 (Value.int IntKind.i64 0))) w K) (fun t50 w =>
    N (xpick t48 t50 (Value.bool false)) w fun t51 w =>
    M t51 fun t52 =>
    G (isB t52 true) (fun K => N (xv (Instr.loadAt 31 (e 6))) w K) (fun t53 w =>
    G (isB t52 true) (fun K => N (xv (Instr.build 29 ([(0, (Value.bool true)), (1, (Value.string ⟨#[49]⟩))]).toArray)) w K) (fun t54 w =>
    G (isB t52 true) (fun K => N (xv (Instr.build 31 ([(0, (Value.string ⟨#[97]⟩)), (1, t54), (2, (Value.int IntKind.i64 1)), (3, (Value.int IntKind.i64 2))]).toArray)) w K) (fun t55 w =>
    G (isB t52 true) (fun K => N (xv (xbin BinOp.eql 31 (Operand.tmp 53) (Operand.tmp 55) t53 t55)) w K) (fun t56 w =>
    N (xpick t52 t56 (Value.bool false)) w fun t57 w =>
    M t57 fun t58 =>
    G (isB t58 true) (fun K => M (e 7) fun v => K v w) (fun t59 w =>
    G (isB t58 true) (fun K => N (xv (xbin BinOp.eql 32 (Operand.tmp 59) (Operand.const (Value.int IntKind.i64 0)) t59 (Value.int IntKind.i64 0))) w K) (fun t60 w =>
    N (xpick t58 t60 (Value.bool false)) w fun t61 w =>
    M t61 fun t62 =>
    G (isB t62 true) (fun K => M (e 9) fun v => K v w) (fun t63 w =>
    G (isB t62 true) (fun K => N (xv (xbin BinOp.eql 3 (Operand.tmp 63) (Operand.const (Value.int IntKind.i64 21)) t63 (Value.int IntKind.i64 21))) w K) (fun t64 w =>
    N (xpick t62 t64 (Value.bool false)) w fun t65 w =>
    M t65 fun t66 =>
    G (isB t66 true) (fun K => M (e 1) fun v => K v w) (fun t67 w =>
    G (isB t66 true) (fun K => N (xcall (Value.func (Fn.func 22) #[] #[]) [t67]) w K) (fun t68 w =>
    G (isB t66 true) (fun K => N (xv (xbin BinOp.eql 2 (Operand.tmp 68) (Operand.const (Value.int IntKind.i64 2)) t68 (Value.int IntKind.i64 2))) w K) (fun t69 w =>
    N (xpick t66 t69 (Value.bool false)) w fun t70 w =>
    M t70 fun t0 =>
    k (Env.p e 0 t0) w) w) w) w) w) w) w) w) w) w) w) w) w) w) w) w) w) w) := nr (by kernel_rfl)
theorem c15RRRRRRR_s (Q : Exit → Env → World → Prop) (e : Env) (w : World) (hw : Cur w) : W Try.prog 71 V15 c15RRRRRRR Q e w = (opsW (nx Try.prog) mv gdP 71 V15 o15_8 (fun e w => Q .ret e w) o15_8.toList [] e e w) := by
  rw [(by kernel_rfl : c15RRRRRRR = .seq (.region 8 o15_8 false) Code.ret), W_seq_reg]; simp only [W_ret, W_skip, W_exit, W_label]
theorem c15RRRRRR_s (Q : Exit → Env → World → Prop) (e : Env) (w : World) (hw : Cur w) : W Try.prog 71 V15 c15RRRRRR Q e w = (opsW (nx Try.prog) mv gdP 71 V15 o15_7 (fun e w => W Try.prog 71 V15 c15RRRRRRR Q e w) o15_7.toList [] e e w) := by
  rw [(by kernel_rfl : c15RRRRRR = .seq (.region 7 o15_7 false) c15RRRRRRR), W_seq_reg]
theorem c15RRRRR_s (Q : Exit → Env → World → Prop) (e : Env) (w : World) (hw : Cur w) : W Try.prog 71 V15 c15RRRRR Q e w = (opsW (nx Try.prog) mv gdP 71 V15 o15_6 (fun e w => W Try.prog 71 V15 c15RRRRRR Q e w) o15_6.toList [] e e w) := by
  rw [(by kernel_rfl : c15RRRRR = .seq (.region 6 o15_6 false) c15RRRRRR), W_seq_reg]
theorem c15RRRR_s (Q : Exit → Env → World → Prop) (e : Env) (w : World) (hw : Cur w) : W Try.prog 71 V15 c15RRRR Q e w = (opsW (nx Try.prog) mv gdP 71 V15 o15_5 (fun e w => W Try.prog 71 V15 c15RRRRR Q e w) o15_5.toList [] e e w) := by
  rw [(by kernel_rfl : c15RRRR = .seq (.region 5 o15_5 false) c15RRRRR), W_seq_reg]
theorem c15RRR_s (Q : Exit → Env → World → Prop) (e : Env) (w : World) (hw : Cur w) : W Try.prog 71 V15 c15RRR Q e w = (opsW (nx Try.prog) mv gdP 71 V15 o15_4 (fun e w => W Try.prog 71 V15 c15RRRR Q e w) o15_4.toList [] e e w) := by
  rw [(by kernel_rfl : c15RRR = .seq (.region 4 o15_4 false) c15RRRR), W_seq_reg]
theorem o15_2_eq (N : Sem Next → World → (Value → World → Prop) → Prop) (M : Value → (Value → Prop) → Prop) (G : Bool → ((Value → World → Prop) → Prop) → (Value → World → Prop) → World → Prop) (k : Env → World → Prop) (e : Env) (w : World) : opsW N M G 71 V15 o15_2 k o15_2.toList [] e e w =
    (M (e 1) fun t11 =>
    N (xv (xbin BinOp.eql 24 (Operand.tmp 11) (Operand.const (Value.pointer none)) t11 (Value.pointer none))) w fun t12 w =>
    k (Env.p e 12 t12) w) := nr (by kernel_rfl)
theorem o15_3_eq (N : Sem Next → World → (Value → World → Prop) → Prop) (M : Value → (Value → Prop) → Prop) (G : Bool → ((Value → World → Prop) → Prop) → (Value → World → Prop) → World → Prop) (k : Env → World → Prop) (e : Env) (w : World) : opsW N M G 71 V15 o15_3 k o15_3.toList [] e e w =
    (M (Value.bool false) fun t0 =>
    k (Env.p e 0 t0) w) := nr (by kernel_rfl)
theorem c15RRLRL_s (Q : Exit → Env → World → Prop) (e : Env) (w : World) (hw : Cur w) : W Try.prog 71 V15 c15RRLRL Q e w = (opsW (nx Try.prog) mv gdP 71 V15 o15_3 (fun e w => Q .ret e w) o15_3.toList [] e e w) := by
  rw [(by kernel_rfl : c15RRLRL = .seq (.region 3 o15_3 false) Code.ret), W_seq_reg]; simp only [W_ret, W_skip, W_exit, W_label]
theorem c15RRLR_v : opV V15 (.tmp 12) = true := by kernel_rfl
theorem c15RRLR_s (Q : Exit → Env → World → Prop) (e : Env) (w : World) (hw : Cur w) : W Try.prog 71 V15 c15RRLR Q e w = (condP (ev e (.tmp 12)) (W Try.prog 71 V15 c15RRLRL Q e w) (Q .normal e w)) := by
  rw [(by kernel_rfl : c15RRLR = .cond (.tmp 12) c15RRLRL Code.skip), W_cond, c15RRLR_v, cond_true]; simp only [W_ret, W_skip, W_exit, W_label]
theorem c15RRL_s (Q : Exit → Env → World → Prop) (e : Env) (w : World) (hw : Cur w) : W Try.prog 71 V15 c15RRL Q e w = (opsW (nx Try.prog) mv gdP 71 V15 o15_2 (fun e w => W Try.prog 71 V15 c15RRLR Q e w) o15_2.toList [] e e w) := by
  rw [(by kernel_rfl : c15RRL = .seq (.region 2 o15_2 false) c15RRLR), W_seq_reg]
theorem c15RR_s (Q : Exit → Env → World → Prop) (e : Env) (w : World) (hw : Cur w) : W Try.prog 71 V15 c15RR Q e w = (W Try.prog 71 V15 c15RRL (seqQ (fun e w => W Try.prog 71 V15 c15RRR Q e w) Q) e w) := by
  rw [(by kernel_rfl : c15RR = .seq c15RRL c15RRR), W_seq]
theorem c15R_s (Q : Exit → Env → World → Prop) (e : Env) (w : World) (hw : Cur w) : W Try.prog 71 V15 c15R Q e w = (opsW (nx Try.prog) mv gdP 71 V15 o15_1 (fun e w => W Try.prog 71 V15 c15RR Q e w) o15_1.toList [] e e w) := by
  rw [(by kernel_rfl : c15R = .seq (.region 1 o15_1 false) c15RR), W_seq_reg]
theorem c15_s (Q : Exit → Env → World → Prop) (e : Env) (w : World) (hw : Cur w) : W Try.prog 71 V15 c15 Q e w = (opsW (nx Try.prog) mv gdP 71 V15 o15_0 (fun e w => W Try.prog 71 V15 c15R Q e w) o15_0.toList [] e e w) := by
  rw [(by kernel_rfl : c15 = .seq (.region 0 o15_0 false) c15R), W_seq_reg]
theorem call15 {w : World} {R : Value → World → Prop} (h : W Try.prog 71 V15 c15 (retQ Try.prog [.tmp 0] R) (argE []) w) : CallsN Try.prog 15 [] w R :=
  callsN_of_W (c := c15) (rs := [.tmp 0]) V15 Try.ntmps15 (by rw [Try.results15]) mixed Try.func15 (by kernel_rfl) (by kernel_rfl) (by kernel_rfl) (by kernel_rfl) (by simp) h
-- K15: ↓o15_0_eq, ↓o15_1_eq, ↓o15_4_eq, ↓o15_5_eq, ↓o15_6_eq, ↓o15_7_eq, ↓o15_8_eq, ↓c15RRRRRRR_s, ↓c15RRRRRR_s, ↓c15RRRRR_s, ↓c15RRRR_s, ↓c15RRR_s, ↓o15_2_eq, ↓o15_3_eq, ↓c15RRLRL_s, ↓c15RRLR_s, ↓c15RRL_s, ↓c15RR_s, ↓c15R_s, ↓c15_s
/-! ### vouch/store.New -/
def V16 : Nat → Bool := fun i => [0, 2].elem i
noncomputable def c16 : Code := (Try.f16.body.getD .skip)
noncomputable def o16_0 : Array Oper := rO (cL (Try.f16.body.getD .skip))
noncomputable def c16R : Code := (cR (Try.f16.body.getD .skip))
noncomputable def o16_1 : Array Oper := rO (cL (cR (Try.f16.body.getD .skip)))
theorem o16_0_eq (N : Sem Next → World → (Value → World → Prop) → Prop) (M : Value → (Value → Prop) → Prop) (G : Bool → ((Value → World → Prop) → Prop) → (Value → World → Prop) → World → Prop) (k : Env → World → Prop) (e : Env) (w : World) : opsW N M G 9 V16 o16_0 k o16_0.toList [] e e w =
    (M (Value.pointer none) fun t2 =>
    k (Env.p e 2 t2) w) := nr (by kernel_rfl)
theorem o16_1_eq (N : Sem Next → World → (Value → World → Prop) → Prop) (M : Value → (Value → Prop) → Prop) (G : Bool → ((Value → World → Prop) → Prop) → (Value → World → Prop) → World → Prop) (k : Env → World → Prop) (e : Env) (w : World) : opsW N M G 9 V16 o16_1 k o16_1.toList [] e e w =
    (N (xv (Instr.makeMap 109 none)) w fun t3 w =>
    M (e 0) fun t4 =>
    N (builtin Builtin.max #[3, 3] 3 ([false, true]).toArray ([t4, (Value.int IntKind.i64 1)]).toArray) w fun t5 w =>
    N (builtin Builtin.min #[3, 3] 3 ([false, true]).toArray ([t5, (Value.int IntKind.i64 64)]).toArray) w fun t6 w =>
    N (xv (Instr.build 111 ([(0, t3), (1, t6)]).toArray)) w fun t7 w =>
    N (xv (Instr.box 111 t7)) w fun t8 w =>
    M t8 fun t2 =>
    k (Env.p e 2 t2) w) := nr (by kernel_rfl)
theorem c16R_s (Q : Exit → Env → World → Prop) (e : Env) (w : World) (hw : Cur w) : W Try.prog 9 V16 c16R Q e w = (opsW (nx Try.prog) mv gdP 9 V16 o16_1 (fun e w => Q .ret e w) o16_1.toList [] e e w) := by
  rw [(by kernel_rfl : c16R = .seq (.region 1 o16_1 false) Code.ret), W_seq_reg]; simp only [W_ret, W_skip, W_exit, W_label]
theorem c16_s (Q : Exit → Env → World → Prop) (e : Env) (w : World) (hw : Cur w) : W Try.prog 9 V16 c16 Q e w = (opsW (nx Try.prog) mv gdP 9 V16 o16_0 (fun e w => W Try.prog 9 V16 c16R Q e w) o16_0.toList [] e e w) := by
  rw [(by kernel_rfl : c16 = .seq (.region 0 o16_0 false) c16R), W_seq_reg]
theorem call16 {a0 : Value} {w : World} {R : Value → World → Prop} (h : W Try.prog 9 V16 c16 (retQ Try.prog [.tmp 2] R) (argE [a0]) w) : CallsN Try.prog 16 [a0] w R :=
  callsN_of_W (c := c16) (rs := [.tmp 2]) V16 Try.ntmps16 (by rw [Try.results16]) mixed Try.func16 (by kernel_rfl) (by kernel_rfl) (by kernel_rfl) (by kernel_rfl) (by simp) h
-- K16: ↓o16_0_eq, ↓o16_1_eq, ↓c16R_s, ↓c16_s
/-! ### vouch/vouchlaw05.done -/
def V17 : Nat → Bool := fun i => [0, 1, 4, 5, 6, 7, 8, 9, 13, 26, 28, 45].elem i
noncomputable def c17 : Code := (Try.f17.body.getD .skip)
noncomputable def o17_0 : Array Oper := rO (cL (Try.f17.body.getD .skip))
noncomputable def c17R : Code := (cR (Try.f17.body.getD .skip))
noncomputable def o17_1 : Array Oper := rO (cL (cR (Try.f17.body.getD .skip)))
noncomputable def c17RR : Code := (cR (cR (Try.f17.body.getD .skip)))
noncomputable def c17RRR : Code := (cR (cR (cR (Try.f17.body.getD .skip))))
noncomputable def o17_12 : Array Oper := rO (cL (cR (cR (cR (Try.f17.body.getD .skip)))))
noncomputable def c17RRL : Code := (cL (cR (cR (Try.f17.body.getD .skip))))
noncomputable def o17_2 : Array Oper := rO (cL (cL (cR (cR (Try.f17.body.getD .skip)))))
noncomputable def c17RRLR : Code := (cR (cL (cR (cR (Try.f17.body.getD .skip)))))
noncomputable def c17RRLRL : Code := (cL (cR (cL (cR (cR (Try.f17.body.getD .skip))))))
noncomputable def c17RRLRLL : Code := (cL (cL (cR (cL (cR (cR (Try.f17.body.getD .skip)))))))
noncomputable def c17RRLRLLR : Code := (cR (cL (cL (cR (cL (cR (cR (Try.f17.body.getD .skip))))))))
noncomputable def c17RRLRLLRR : Code := (cR (cR (cL (cL (cR (cL (cR (cR (Try.f17.body.getD .skip)))))))))
noncomputable def o17_4 : Array Oper := rO (cR (cR (cL (cL (cR (cL (cR (cR (Try.f17.body.getD .skip)))))))))
noncomputable def c17RRLRLLRL : Code := (cL (cR (cL (cL (cR (cL (cR (cR (Try.f17.body.getD .skip)))))))))
noncomputable def c17RRLRLLRLL : Code := (cL (cL (cR (cL (cL (cR (cL (cR (cR (Try.f17.body.getD .skip))))))))))
noncomputable def o17_5 : Array Oper := rO (cL (cL (cL (cR (cL (cL (cR (cL (cR (cR (Try.f17.body.getD .skip)))))))))))
noncomputable def c17RRLRLLRLLR : Code := (cR (cL (cL (cR (cL (cL (cR (cL (cR (cR (Try.f17.body.getD .skip)))))))))))
noncomputable def c17RRLRLLRLLRR : Code := (cR (cR (cL (cL (cR (cL (cL (cR (cL (cR (cR (Try.f17.body.getD .skip))))))))))))
noncomputable def o17_9 : Array Oper := rO (cL (cR (cR (cL (cL (cR (cL (cL (cR (cL (cR (cR (Try.f17.body.getD .skip)))))))))))))
noncomputable def c17RRLRLLRLLRRR : Code := (cR (cR (cR (cL (cL (cR (cL (cL (cR (cL (cR (cR (Try.f17.body.getD .skip)))))))))))))
noncomputable def o17_10 : Array Oper := rO (cL (cR (cR (cR (cL (cL (cR (cL (cL (cR (cL (cR (cR (Try.f17.body.getD .skip))))))))))))))
noncomputable def c17RRLRLLRLLRRRR : Code := (cR (cR (cR (cR (cL (cL (cR (cL (cL (cR (cL (cR (cR (Try.f17.body.getD .skip))))))))))))))
noncomputable def c17RRLRLLRLLRRRRL : Code := (cL (cR (cR (cR (cR (cL (cL (cR (cL (cL (cR (cL (cR (cR (Try.f17.body.getD .skip)))))))))))))))
noncomputable def o17_11 : Array Oper := rO (cL (cL (cR (cR (cR (cR (cL (cL (cR (cL (cL (cR (cL (cR (cR (Try.f17.body.getD .skip))))))))))))))))
noncomputable def c17RRLRLLRLLRL : Code := (cL (cR (cL (cL (cR (cL (cL (cR (cL (cR (cR (Try.f17.body.getD .skip))))))))))))
noncomputable def o17_6 : Array Oper := rO (cL (cL (cR (cL (cL (cR (cL (cL (cR (cL (cR (cR (Try.f17.body.getD .skip)))))))))))))
noncomputable def c17RRLRLLRLLRLR : Code := (cR (cL (cR (cL (cL (cR (cL (cL (cR (cL (cR (cR (Try.f17.body.getD .skip)))))))))))))
noncomputable def c17RRLRLLRLLRLRL : Code := (cL (cR (cL (cR (cL (cL (cR (cL (cL (cR (cL (cR (cR (Try.f17.body.getD .skip))))))))))))))
noncomputable def c17RRLRLLRLLRLRLL : Code := (cL (cL (cR (cL (cR (cL (cL (cR (cL (cL (cR (cL (cR (cR (Try.f17.body.getD .skip)))))))))))))))
noncomputable def o17_7 : Array Oper := rO (cL (cL (cL (cR (cL (cR (cL (cL (cR (cL (cL (cR (cL (cR (cR (Try.f17.body.getD .skip))))))))))))))))
noncomputable def c17RRLRLLRLLRLRLLR : Code := (cR (cL (cL (cR (cL (cR (cL (cL (cR (cL (cL (cR (cL (cR (cR (Try.f17.body.getD .skip))))))))))))))))
noncomputable def c17RRLRLLRLLRLRLLRL : Code := (cL (cR (cL (cL (cR (cL (cR (cL (cL (cR (cL (cL (cR (cL (cR (cR (Try.f17.body.getD .skip)))))))))))))))))
noncomputable def o17_8 : Array Oper := rO (cL (cL (cR (cL (cL (cR (cL (cR (cL (cL (cR (cL (cL (cR (cL (cR (cR (Try.f17.body.getD .skip))))))))))))))))))
noncomputable def c17RRLRLLL : Code := (cL (cL (cL (cR (cL (cR (cR (Try.f17.body.getD .skip))))))))
noncomputable def o17_3 : Array Oper := rO (cL (cL (cL (cL (cR (cL (cR (cR (Try.f17.body.getD .skip)))))))))
noncomputable def c17RRLRLLLR : Code := (cR (cL (cL (cL (cR (cL (cR (cR (Try.f17.body.getD .skip)))))))))
theorem o17_0_eq (N : Sem Next → World → (Value → World → Prop) → Prop) (M : Value → (Value → Prop) → Prop) (G : Bool → ((Value → World → Prop) → Prop) → (Value → World → Prop) → World → Prop) (k : Env → World → Prop) (e : Env) (w : World) : opsW N M G 47 V17 o17_0 k o17_0.toList [] e e w =
    (M (Value.slice none 0 0) fun t4 =>
    M (Value.bool false) fun t5 =>
    k (Env.p (Env.p e 4 t4) 5 t5) w) := nr (by kernel_rfl)
theorem o17_1_eq (N : Sem Next → World → (Value → World → Prop) → Prop) (M : Value → (Value → Prop) → Prop) (G : Bool → ((Value → World → Prop) → Prop) → (Value → World → Prop) → World → Prop) (k : Env → World → Prop) (e : Env) (w : World) : opsW N M G 47 V17 o17_1 k o17_1.toList [] e e w =
    (M (Value.slice none 0 0) fun t6 =>
    k (Env.p e 6 t6) w) := nr (by kernel_rfl)
theorem o17_12_eq (N : Sem Next → World → (Value → World → Prop) → Prop) (M : Value → (Value → Prop) → Prop) (G : Bool → ((Value → World → Prop) → Prop) → (Value → World → Prop) → World → Prop) (k : Env → World → Prop) (e : Env) (w : World) : opsW N M G 47 V17 o17_12 k o17_12.toList [] e e w =
    (M (e 6) fun t46 =>
    M t46 fun t4 =>
    M (Value.bool true) fun t5 =>
    k (Env.p (Env.p e 4 t4) 5 t5) w) := nr (by kernel_rfl)
theorem c17RRR_s (Q : Exit → Env → World → Prop) (e : Env) (w : World) (hw : Cur w) : W Try.prog 47 V17 c17RRR Q e w = (opsW (nx Try.prog) mv gdP 47 V17 o17_12 (fun e w => Q .ret e w) o17_12.toList [] e e w) := by
  rw [(by kernel_rfl : c17RRR = .seq (.region 12 o17_12 false) Code.ret), W_seq_reg]; simp only [W_ret, W_skip, W_exit, W_label]
theorem o17_2_eq (N : Sem Next → World → (Value → World → Prop) → Prop) (M : Value → (Value → Prop) → Prop) (G : Bool → ((Value → World → Prop) → Prop) → (Value → World → Prop) → World → Prop) (k : Env → World → Prop) (e : Env) (w : World) : opsW N M G 47 V17 o17_2 k o17_2.toList [] e e w =
    (M (Value.int IntKind.i64 0) fun t7 =>
    k (Env.p e 7 t7) w) := nr (by kernel_rfl)
theorem o17_4_eq (N : Sem Next → World → (Value → World → Prop) → Prop) (M : Value → (Value → Prop) → Prop) (G : Bool → ((Value → World → Prop) → Prop) → (Value → World → Prop) → World → Prop) (k : Env → World → Prop) (e : Env) (w : World) : opsW N M G 47 V17 o17_4 k o17_4.toList [] e e w =
    (M (e 7) fun t14 =>
    N (xv (xbin BinOp.add 3 (Operand.tmp 14) (Operand.const (Value.int IntKind.i64 1)) t14 (Value.int IntKind.i64 1))) w fun t15 w =>
    M t15 fun t7 =>
    k (Env.p e 7 t7) w) := nr (by kernel_rfl)
theorem c17RRLRLLRR_s (Q : Exit → Env → World → Prop) (e : Env) (w : World) (hw : Cur w) : W Try.prog 47 V17 c17RRLRLLRR Q e w = (opsW (nx Try.prog) mv gdP 47 V17 o17_4 (fun e w => Q .normal e w) o17_4.toList [] e e w) := by
  rw [(by kernel_rfl : c17RRLRLLRR = (.region 4 o17_4 false)), W_reg]
theorem o17_5_eq (N : Sem Next → World → (Value → World → Prop) → Prop) (M : Value → (Value → Prop) → Prop) (G : Bool → ((Value → World → Prop) → Prop) → (Value → World → Prop) → World → Prop) (k : Env → World → Prop) (e : Env) (w : World) : opsW N M G 47 V17 o17_5 k o17_5.toList [] e e w =
    (M (e 0) fun t17 =>
    M (e 1) fun t18 =>
    M (e 7) fun t19 =>
    N (xv (Instr.indexAt 22 t18 t19)) w fun t20 w =>
    N (xv (Instr.loadAt 40 t20)) w fun t21 w =>
    N (xcall (Value.func (Fn.func 21) #[] #[]) [t17, t21]) w fun t22 w =>
    M t22 fun t16 =>
    N (xv (Instr.extract t16 0)) w fun t23 w =>
    N (xv (Instr.extract t16 1)) w fun t24 w =>
    M t23 fun t8 =>
    M t24 fun t9 =>
    k (Env.p (Env.p e 8 t8) 9 t9) w) := nr (by kernel_rfl)
theorem o17_9_eq (N : Sem Next → World → (Value → World → Prop) → Prop) (M : Value → (Value → Prop) → Prop) (G : Bool → ((Value → World → Prop) → Prop) → (Value → World → Prop) → World → Prop) (k : Env → World → Prop) (e : Env) (w : World) : opsW N M G 47 V17 o17_9 k o17_9.toList [] e e w =
    (M (e 6) fun t29 =>
    M (e 1) fun t30 =>
    M (e 7) fun t31 =>
    N (xv (Instr.indexAt 22 t30 t31)) w fun t32 w =>
    N (xv (Instr.loadAt 40 t32)) w fun t33 w =>
    N (xv (Instr.buildSlice 22 1 ([(0, t33)]).toArray)) w fun t34 w =>
    N (builtin Builtin.append #[22, 22] 22 ([false, false]).toArray ([t29, t34]).toArray) w fun t35 w =>
    M t35 fun t6 =>
    k (Env.p e 6 t6) w) := nr (by kernel_rfl)
theorem o17_10_eq (N : Sem Next → World → (Value → World → Prop) → Prop) (M : Value → (Value → Prop) → Prop) (G : Bool → ((Value → World → Prop) → Prop) → (Value → World → Prop) → World → Prop) (k : Env → World → Prop) (e : Env) (w : World) : opsW N M G 47 V17 o17_10 k o17_10.toList [] e e w =
    (M (e 8) fun t36 =>
    M (e 6) fun t37 =>
    N (builtin Builtin.len #[22] 3 ([false]).toArray ([t37]).toArray) w fun t38 w =>
    N (xv (xbin BinOp.neq 2 (Operand.tmp 36) (Operand.tmp 38) t36 t38)) w fun t39 w =>
    M t39 fun t40 =>
    G (isB t40 false) (fun K => M (e 0) fun v => K v w) (fun t41 w =>
    G (isB t40 false) (fun K => N (xcall (Value.func (Fn.func 22) #[] #[]) [t41]) w K) (fun t42 w =>
    G (isB t40 false) (fun K => M (e 8) fun v => K v w) (fun t43 w =>
    G (isB t40 false) (fun K => N (xv (xbin BinOp.neq 2 (Operand.tmp 42) (Operand.tmp 43) t42 t43)) w K) (fun t44 w =>
    N (xpick t40 (Value.bool true) t44) w fun t45 w =>
    k (Env.p e 45 t45) w) w) w) w) w) := nr (by kernel_rfl)
theorem o17_11_eq (N : Sem Next → World → (Value → World → Prop) → Prop) (M : Value → (Value → Prop) → Prop) (G : Bool → ((Value → World → Prop) → Prop) → (Value → World → Prop) → World → Prop) (k : Env → World → Prop) (e : Env) (w : World) : opsW N M G 47 V17 o17_11 k o17_11.toList [] e e w =
    (M (Value.slice none 0 0) fun t4 =>
    M (Value.bool false) fun t5 =>
    k (Env.p (Env.p e 4 t4) 5 t5) w) := nr (by kernel_rfl)
theorem c17RRLRLLRLLRRRRL_s (Q : Exit → Env → World → Prop) (e : Env) (w : World) (hw : Cur w) : W Try.prog 47 V17 c17RRLRLLRLLRRRRL Q e w = (opsW (nx Try.prog) mv gdP 47 V17 o17_11 (fun e w => Q .ret e w) o17_11.toList [] e e w) := by
  rw [(by kernel_rfl : c17RRLRLLRLLRRRRL = .seq (.region 11 o17_11 false) Code.ret), W_seq_reg]; simp only [W_ret, W_skip, W_exit, W_label]
theorem c17RRLRLLRLLRRRR_v : opV V17 (.tmp 45) = true := by kernel_rfl
theorem c17RRLRLLRLLRRRR_s (Q : Exit → Env → World → Prop) (e : Env) (w : World) (hw : Cur w) : W Try.prog 47 V17 c17RRLRLLRLLRRRR Q e w = (condP (ev e (.tmp 45)) (W Try.prog 47 V17 c17RRLRLLRLLRRRRL Q e w) (Q .normal e w)) := by
  rw [(by kernel_rfl : c17RRLRLLRLLRRRR = .cond (.tmp 45) c17RRLRLLRLLRRRRL Code.skip), W_cond, c17RRLRLLRLLRRRR_v, cond_true]; simp only [W_ret, W_skip, W_exit, W_label]
theorem c17RRLRLLRLLRRR_s (Q : Exit → Env → World → Prop) (e : Env) (w : World) (hw : Cur w) : W Try.prog 47 V17 c17RRLRLLRLLRRR Q e w = (opsW (nx Try.prog) mv gdP 47 V17 o17_10 (fun e w => W Try.prog 47 V17 c17RRLRLLRLLRRRR Q e w) o17_10.toList [] e e w) := by
  rw [(by kernel_rfl : c17RRLRLLRLLRRR = .seq (.region 10 o17_10 false) c17RRLRLLRLLRRRR), W_seq_reg]
theorem c17RRLRLLRLLRR_s (Q : Exit → Env → World → Prop) (e : Env) (w : World) (hw : Cur w) : W Try.prog 47 V17 c17RRLRLLRLLRR Q e w = (opsW (nx Try.prog) mv gdP 47 V17 o17_9 (fun e w => W Try.prog 47 V17 c17RRLRLLRLLRRR Q e w) o17_9.toList [] e e w) := by
  rw [(by kernel_rfl : c17RRLRLLRLLRR = .seq (.region 9 o17_9 false) c17RRLRLLRLLRRR), W_seq_reg]
theorem o17_6_eq (N : Sem Next → World → (Value → World → Prop) → Prop) (M : Value → (Value → Prop) → Prop) (G : Bool → ((Value → World → Prop) → Prop) → (Value → World → Prop) → World → Prop) (k : Env → World → Prop) (e : Env) (w : World) : opsW N M G 47 V17 o17_6 k o17_6.toList [] e e w =
    (M (e 9) fun t25 =>
    N (xv (xbin BinOp.neq 32 (Operand.tmp 25) (Operand.const (Value.int IntKind.i64 0)) t25 (Value.int IntKind.i64 0))) w fun t26 w =>
    k (Env.p e 26 t26) w) := nr (by kernel_rfl)
theorem o17_7_eq (N : Sem Next → World → (Value → World → Prop) → Prop) (M : Value → (Value → Prop) → Prop) (G : Bool → ((Value → World → Prop) → Prop) → (Value → World → Prop) → World → Prop) (k : Env → World → Prop) (e : Env) (w : World) : opsW N M G 47 V17 o17_7 k o17_7.toList [] e e w =
    (M (e 8) fun t27 =>
    N (xv (xbin BinOp.neq 2 (Operand.tmp 27) (Operand.const (Value.int IntKind.i64 0)) t27 (Value.int IntKind.i64 0))) w fun t28 w =>
    k (Env.p e 28 t28) w) := nr (by kernel_rfl)
theorem o17_8_eq (N : Sem Next → World → (Value → World → Prop) → Prop) (M : Value → (Value → Prop) → Prop) (G : Bool → ((Value → World → Prop) → Prop) → (Value → World → Prop) → World → Prop) (k : Env → World → Prop) (e : Env) (w : World) : opsW N M G 47 V17 o17_8 k o17_8.toList [] e e w =
    (M (Value.slice none 0 0) fun t4 =>
    M (Value.bool false) fun t5 =>
    k (Env.p (Env.p e 4 t4) 5 t5) w) := nr (by kernel_rfl)
theorem c17RRLRLLRLLRLRLLRL_s (Q : Exit → Env → World → Prop) (e : Env) (w : World) (hw : Cur w) : W Try.prog 47 V17 c17RRLRLLRLLRLRLLRL Q e w = (opsW (nx Try.prog) mv gdP 47 V17 o17_8 (fun e w => Q .ret e w) o17_8.toList [] e e w) := by
  rw [(by kernel_rfl : c17RRLRLLRLLRLRLLRL = .seq (.region 8 o17_8 false) Code.ret), W_seq_reg]; simp only [W_ret, W_skip, W_exit, W_label]
theorem c17RRLRLLRLLRLRLLR_v : opV V17 (.tmp 28) = true := by kernel_rfl
theorem c17RRLRLLRLLRLRLLR_s (Q : Exit → Env → World → Prop) (e : Env) (w : World) (hw : Cur w) : W Try.prog 47 V17 c17RRLRLLRLLRLRLLR Q e w = (condP (ev e (.tmp 28)) (W Try.prog 47 V17 c17RRLRLLRLLRLRLLRL Q e w) (Q .normal e w)) := by
  rw [(by kernel_rfl : c17RRLRLLRLLRLRLLR = .cond (.tmp 28) c17RRLRLLRLLRLRLLRL Code.skip), W_cond, c17RRLRLLRLLRLRLLR_v, cond_true]; simp only [W_ret, W_skip, W_exit, W_label]
theorem c17RRLRLLRLLRLRLL_s (Q : Exit → Env → World → Prop) (e : Env) (w : World) (hw : Cur w) : W Try.prog 47 V17 c17RRLRLLRLLRLRLL Q e w = (opsW (nx Try.prog) mv gdP 47 V17 o17_7 (fun e w => W Try.prog 47 V17 c17RRLRLLRLLRLRLLR Q e w) o17_7.toList [] e e w) := by
  rw [(by kernel_rfl : c17RRLRLLRLLRLRLL = .seq (.region 7 o17_7 false) c17RRLRLLRLLRLRLLR), W_seq_reg]
theorem c17RRLRLLRLLRLRL_s (Q : Exit → Env → World → Prop) (e : Env) (w : World) (hw : Cur w) : W Try.prog 47 V17 c17RRLRLLRLLRLRL Q e w = (W Try.prog 47 V17 c17RRLRLLRLLRLRLL (seqQ (fun e w => Q (.exit 1) e w) Q) e w) := by
  rw [(by kernel_rfl : c17RRLRLLRLLRLRL = .seq c17RRLRLLRLLRLRLL (Code.exit 1)), W_seq]; simp only [W_ret, W_skip, W_exit, W_label]
theorem c17RRLRLLRLLRLR_v : opV V17 (.tmp 26) = true := by kernel_rfl
theorem c17RRLRLLRLLRLR_s (Q : Exit → Env → World → Prop) (e : Env) (w : World) (hw : Cur w) : W Try.prog 47 V17 c17RRLRLLRLLRLR Q e w = (condP (ev e (.tmp 26)) (W Try.prog 47 V17 c17RRLRLLRLLRLRL Q e w) (Q .normal e w)) := by
  rw [(by kernel_rfl : c17RRLRLLRLLRLR = .cond (.tmp 26) c17RRLRLLRLLRLRL Code.skip), W_cond, c17RRLRLLRLLRLR_v, cond_true]; simp only [W_ret, W_skip, W_exit, W_label]
theorem c17RRLRLLRLLRL_s (Q : Exit → Env → World → Prop) (e : Env) (w : World) (hw : Cur w) : W Try.prog 47 V17 c17RRLRLLRLLRL Q e w = (opsW (nx Try.prog) mv gdP 47 V17 o17_6 (fun e w => W Try.prog 47 V17 c17RRLRLLRLLRLR Q e w) o17_6.toList [] e e w) := by
  rw [(by kernel_rfl : c17RRLRLLRLLRL = .seq (.region 6 o17_6 false) c17RRLRLLRLLRLR), W_seq_reg]
theorem c17RRLRLLRLLR_s (Q : Exit → Env → World → Prop) (e : Env) (w : World) (hw : Cur w) : W Try.prog 47 V17 c17RRLRLLRLLR Q e w = (W Try.prog 47 V17 c17RRLRLLRLLRL (seqQ (fun e w => W Try.prog 47 V17 c17RRLRLLRLLRR Q e w) Q) e w) := by
  rw [(by kernel_rfl : c17RRLRLLRLLR = .seq c17RRLRLLRLLRL c17RRLRLLRLLRR), W_seq]
theorem c17RRLRLLRLL_s (Q : Exit → Env → World → Prop) (e : Env) (w : World) (hw : Cur w) : W Try.prog 47 V17 c17RRLRLLRLL Q e w = (opsW (nx Try.prog) mv gdP 47 V17 o17_5 (fun e w => W Try.prog 47 V17 c17RRLRLLRLLR Q e w) o17_5.toList [] e e w) := by
  rw [(by kernel_rfl : c17RRLRLLRLL = .seq (.region 5 o17_5 false) c17RRLRLLRLLR), W_seq_reg]
theorem c17RRLRLLRL_s (Q : Exit → Env → World → Prop) (e : Env) (w : World) (hw : Cur w) : W Try.prog 47 V17 c17RRLRLLRL Q e w = (W Try.prog 47 V17 c17RRLRLLRLL (blockQ 1 Q) e w) := by
  rw [(by kernel_rfl : c17RRLRLLRL = .block 1 c17RRLRLLRLL), W_block]
theorem c17RRLRLLR_s (Q : Exit → Env → World → Prop) (e : Env) (w : World) (hw : Cur w) : W Try.prog 47 V17 c17RRLRLLR Q e w = (W Try.prog 47 V17 c17RRLRLLRL (seqQ (fun e w => W Try.prog 47 V17 c17RRLRLLRR Q e w) Q) e w) := by
  rw [(by kernel_rfl : c17RRLRLLR = .seq c17RRLRLLRL c17RRLRLLRR), W_seq]
theorem o17_3_eq (N : Sem Next → World → (Value → World → Prop) → Prop) (M : Value → (Value → Prop) → Prop) (G : Bool → ((Value → World → Prop) → Prop) → (Value → World → Prop) → World → Prop) (k : Env → World → Prop) (e : Env) (w : World) : opsW N M G 47 V17 o17_3 k o17_3.toList [] e e w =
    (M (e 7) fun t10 =>
    M (e 1) fun t11 =>
    N (builtin Builtin.len #[22] 3 ([false]).toArray ([t11]).toArray) w fun t12 w =>
    N (xv (xbin BinOp.lss 3 (Operand.tmp 10) (Operand.tmp 12) t10 t12)) w fun t13 w =>
    k (Env.p e 13 t13) w) := nr (by kernel_rfl)
theorem c17RRLRLLLR_v : opV V17 (.tmp 13) = true := by kernel_rfl
theorem c17RRLRLLLR_s (Q : Exit → Env → World → Prop) (e : Env) (w : World) (hw : Cur w) : W Try.prog 47 V17 c17RRLRLLLR Q e w = (condP (ev e (.tmp 13)) (Q .normal e w) (Q (.exit 0) e w)) := by
  rw [(by kernel_rfl : c17RRLRLLLR = .cond (.tmp 13) Code.skip (Code.exit 0)), W_cond, c17RRLRLLLR_v, cond_true]; simp only [W_ret, W_skip, W_exit, W_label]
theorem c17RRLRLLL_s (Q : Exit → Env → World → Prop) (e : Env) (w : World) (hw : Cur w) : W Try.prog 47 V17 c17RRLRLLL Q e w = (opsW (nx Try.prog) mv gdP 47 V17 o17_3 (fun e w => W Try.prog 47 V17 c17RRLRLLLR Q e w) o17_3.toList [] e e w) := by
  rw [(by kernel_rfl : c17RRLRLLL = .seq (.region 3 o17_3 false) c17RRLRLLLR), W_seq_reg]
theorem c17RRLRLL_s (Q : Exit → Env → World → Prop) (e : Env) (w : World) (hw : Cur w) : W Try.prog 47 V17 c17RRLRLL Q e w = (W Try.prog 47 V17 c17RRLRLLL (seqQ (fun e w => W Try.prog 47 V17 c17RRLRLLR Q e w) Q) e w) := by
  rw [(by kernel_rfl : c17RRLRLL = .seq c17RRLRLLL c17RRLRLLR), W_seq]
theorem c17RRLRL_s (Q : Exit → Env → World → Prop) (e : Env) (w : World) (hw : Cur w) : W Try.prog 47 V17 c17RRLRL Q e w = (LoopP (fun e w k => W Try.prog 47 V17 c17RRLRLL (seqQ k Q) e w) e w) := by
  rw [(by kernel_rfl : c17RRLRL = .loop c17RRLRLL), W_loop]
theorem c17RRLR_s (Q : Exit → Env → World → Prop) (e : Env) (w : World) (hw : Cur w) : W Try.prog 47 V17 c17RRLR Q e w = (W Try.prog 47 V17 c17RRLRL (blockQ 0 Q) e w) := by
  rw [(by kernel_rfl : c17RRLR = .block 0 c17RRLRL), W_block]
theorem c17RRL_s (Q : Exit → Env → World → Prop) (e : Env) (w : World) (hw : Cur w) : W Try.prog 47 V17 c17RRL Q e w = (opsW (nx Try.prog) mv gdP 47 V17 o17_2 (fun e w => W Try.prog 47 V17 c17RRLR Q e w) o17_2.toList [] e e w) := by
  rw [(by kernel_rfl : c17RRL = .seq (.region 2 o17_2 false) c17RRLR), W_seq_reg]
theorem c17RR_s (Q : Exit → Env → World → Prop) (e : Env) (w : World) (hw : Cur w) : W Try.prog 47 V17 c17RR Q e w = (W Try.prog 47 V17 c17RRL (seqQ (fun e w => W Try.prog 47 V17 c17RRR Q e w) Q) e w) := by
  rw [(by kernel_rfl : c17RR = .seq c17RRL c17RRR), W_seq]
theorem c17R_s (Q : Exit → Env → World → Prop) (e : Env) (w : World) (hw : Cur w) : W Try.prog 47 V17 c17R Q e w = (opsW (nx Try.prog) mv gdP 47 V17 o17_1 (fun e w => W Try.prog 47 V17 c17RR Q e w) o17_1.toList [] e e w) := by
  rw [(by kernel_rfl : c17R = .seq (.region 1 o17_1 false) c17RR), W_seq_reg]
theorem c17_s (Q : Exit → Env → World → Prop) (e : Env) (w : World) (hw : Cur w) : W Try.prog 47 V17 c17 Q e w = (opsW (nx Try.prog) mv gdP 47 V17 o17_0 (fun e w => W Try.prog 47 V17 c17R Q e w) o17_0.toList [] e e w) := by
  rw [(by kernel_rfl : c17 = .seq (.region 0 o17_0 false) c17R), W_seq_reg]
theorem call17 {a0 a1 : Value} {w : World} {R : Value → World → Prop} (h : W Try.prog 47 V17 c17 (retQ Try.prog [.tmp 4, .tmp 5] R) (argE [a0, a1]) w) : CallsN Try.prog 17 [a0, a1] w R :=
  callsN_of_W (c := c17) (rs := [.tmp 4, .tmp 5]) V17 Try.ntmps17 (by rw [Try.results17]) mixed Try.func17 (by kernel_rfl) (by kernel_rfl) (by kernel_rfl) (by kernel_rfl) (by simp) h
-- K17: ↓o17_0_eq, ↓o17_1_eq, ↓o17_12_eq, ↓c17RRR_s, ↓o17_2_eq, ↓o17_4_eq, ↓c17RRLRLLRR_s, ↓o17_5_eq, ↓o17_9_eq, ↓o17_10_eq, ↓o17_11_eq, ↓c17RRLRLLRLLRRRRL_s, ↓c17RRLRLLRLLRRRR_s, ↓c17RRLRLLRLLRRR_s, ↓c17RRLRLLRLLRR_s, ↓o17_6_eq, ↓o17_7_eq, ↓o17_8_eq, ↓c17RRLRLLRLLRLRLLRL_s, ↓c17RRLRLLRLLRLRLLR_s, ↓c17RRLRLLRLLRLRLL_s, ↓c17RRLRLLRLLRLRL_s, ↓c17RRLRLLRLLRLR_s, ↓c17RRLRLLRLLRL_s, ↓c17RRLRLLRLLR_s, ↓c17RRLRLLRLL_s, ↓c17RRLRLLRL_s, ↓c17RRLRLLR_s, ↓o17_3_eq, ↓c17RRLRLLLR_s, ↓c17RRLRLLL_s, ↓c17RRLRLL_s, ↓c17RRLRL_s, ↓c17RRLR_s, ↓c17RRL_s, ↓c17RR_s, ↓c17R_s, ↓c17_s
/-! ### (*vouch/store.Store) . Read -/
def V18 : Nat → Bool := fun i => [0, 1, 2, 5, 6, 7, 8, 9, 10, 11, 15, 24, 32, 55, 63].elem i
noncomputable def c18 : Code := (Try.f18.body.getD .skip)
noncomputable def o18_0 : Array Oper := rO (cL (Try.f18.body.getD .skip))
noncomputable def c18R : Code := (cR (Try.f18.body.getD .skip))
noncomputable def c18RR : Code := (cR (cR (Try.f18.body.getD .skip)))
noncomputable def o18_9 : Array Oper := rO (cL (cR (cR (Try.f18.body.getD .skip))))
noncomputable def c18RRR : Code := (cR (cR (cR (Try.f18.body.getD .skip))))
noncomputable def o18_10 : Array Oper := rO (cL (cR (cR (cR (Try.f18.body.getD .skip)))))
noncomputable def c18RRRR : Code := (cR (cR (cR (cR (Try.f18.body.getD .skip)))))
noncomputable def o18_11 : Array Oper := rO (cL (cR (cR (cR (cR (Try.f18.body.getD .skip))))))
noncomputable def c18RRRRR : Code := (cR (cR (cR (cR (cR (Try.f18.body.getD .skip))))))
noncomputable def c18RRRRRR : Code := (cR (cR (cR (cR (cR (cR (Try.f18.body.getD .skip)))))))
noncomputable def c18RRRRRRR : Code := (cR (cR (cR (cR (cR (cR (cR (Try.f18.body.getD .skip))))))))
noncomputable def o18_16 : Array Oper := rO (cL (cR (cR (cR (cR (cR (cR (cR (Try.f18.body.getD .skip)))))))))
noncomputable def c18RRRRRRL : Code := (cL (cR (cR (cR (cR (cR (cR (Try.f18.body.getD .skip))))))))
noncomputable def o18_14 : Array Oper := rO (cL (cL (cR (cR (cR (cR (cR (cR (Try.f18.body.getD .skip)))))))))
noncomputable def c18RRRRRRLR : Code := (cR (cL (cR (cR (cR (cR (cR (cR (Try.f18.body.getD .skip)))))))))
noncomputable def c18RRRRRRLRL : Code := (cL (cR (cL (cR (cR (cR (cR (cR (cR (Try.f18.body.getD .skip))))))))))
noncomputable def o18_15 : Array Oper := rO (cL (cR (cL (cR (cR (cR (cR (cR (cR (Try.f18.body.getD .skip))))))))))
noncomputable def c18RRRRRL : Code := (cL (cR (cR (cR (cR (cR (Try.f18.body.getD .skip)))))))
noncomputable def o18_12 : Array Oper := rO (cL (cL (cR (cR (cR (cR (cR (Try.f18.body.getD .skip))))))))
noncomputable def c18RRRRRLR : Code := (cR (cL (cR (cR (cR (cR (cR (Try.f18.body.getD .skip))))))))
noncomputable def c18RRRRRLRL : Code := (cL (cR (cL (cR (cR (cR (cR (cR (Try.f18.body.getD .skip)))))))))
noncomputable def o18_13 : Array Oper := rO (cL (cR (cL (cR (cR (cR (cR (cR (Try.f18.body.getD .skip)))))))))
noncomputable def c18RL : Code := (cL (cR (Try.f18.body.getD .skip)))
noncomputable def c18RLL : Code := (cL (cL (cR (Try.f18.body.getD .skip))))
noncomputable def o18_1 : Array Oper := rO (cL (cL (cL (cR (Try.f18.body.getD .skip)))))
noncomputable def c18RLLR : Code := (cR (cL (cL (cR (Try.f18.body.getD .skip)))))
noncomputable def c18RLLRL : Code := (cL (cR (cL (cL (cR (Try.f18.body.getD .skip))))))
noncomputable def o18_2 : Array Oper := rO (cL (cL (cR (cL (cL (cR (Try.f18.body.getD .skip)))))))
noncomputable def c18RLLRR : Code := (cR (cR (cL (cL (cR (Try.f18.body.getD .skip))))))
noncomputable def o18_3 : Array Oper := rO (cL (cR (cR (cL (cL (cR (Try.f18.body.getD .skip)))))))
noncomputable def c18RLLRRR : Code := (cR (cR (cR (cL (cL (cR (Try.f18.body.getD .skip)))))))
noncomputable def c18RLLRRRL : Code := (cL (cR (cR (cR (cL (cL (cR (Try.f18.body.getD .skip))))))))
noncomputable def o18_4 : Array Oper := rO (cL (cL (cR (cR (cR (cL (cL (cR (Try.f18.body.getD .skip)))))))))
noncomputable def c18RLLRRRR : Code := (cR (cR (cR (cR (cL (cL (cR (Try.f18.body.getD .skip))))))))
noncomputable def o18_5 : Array Oper := rO (cL (cR (cR (cR (cR (cL (cL (cR (Try.f18.body.getD .skip)))))))))
noncomputable def c18RLLRRRRR : Code := (cR (cR (cR (cR (cR (cL (cL (cR (Try.f18.body.getD .skip)))))))))
noncomputable def c18RLLRRRRRL : Code := (cL (cR (cR (cR (cR (cR (cL (cL (cR (Try.f18.body.getD .skip))))))))))
noncomputable def o18_6 : Array Oper := rO (cL (cL (cR (cR (cR (cR (cR (cL (cL (cR (Try.f18.body.getD .skip)))))))))))
noncomputable def c18RLLRRRRRR : Code := (cR (cR (cR (cR (cR (cR (cL (cL (cR (Try.f18.body.getD .skip))))))))))
noncomputable def o18_7 : Array Oper := rO (cL (cR (cR (cR (cR (cR (cR (cL (cL (cR (Try.f18.body.getD .skip)))))))))))
noncomputable def c18RLLRRRRRRR : Code := (cR (cR (cR (cR (cR (cR (cR (cL (cL (cR (Try.f18.body.getD .skip)))))))))))
noncomputable def c18RLLRRRRRRRL : Code := (cL (cR (cR (cR (cR (cR (cR (cR (cL (cL (cR (Try.f18.body.getD .skip))))))))))))
noncomputable def o18_8 : Array Oper := rO (cL (cL (cR (cR (cR (cR (cR (cR (cR (cL (cL (cR (Try.f18.body.getD .skip)))))))))))))
theorem o18_0_eq (N : Sem Next → World → (Value → World → Prop) → Prop) (M : Value → (Value → Prop) → Prop) (G : Bool → ((Value → World → Prop) → Prop) → (Value → World → Prop) → World → Prop) (k : Env → World → Prop) (e : Env) (w : World) : opsW N M G 79 V18 o18_0 k o18_0.toList [] e e w =
    (N (xv (Instr.box 2 (e 2))) w fun t5 w =>
    N (xv (Instr.alloc 31 true (.tuple #[]))) w fun t6 w =>
    M (Value.int IntKind.i64 0) fun t7 =>
    k (Env.p (Env.p (Env.p e 5 t5) 6 t6) 7 t7) w) := nr (by kernel_rfl)
theorem o18_9_eq (N : Sem Next → World → (Value → World → Prop) → Prop) (M : Value → (Value → Prop) → Prop) (G : Bool → ((Value → World → Prop) → Prop) → (Value → World → Prop) → World → Prop) (k : Env → World → Prop) (e : Env) (w : World) : opsW N M G 79 V18 o18_9 k o18_9.toList [] e e w =
    (M (e 0) fun t39 =>
    N (xnil t39) w fun t40 w =>
    N (xv (Instr.fieldAt 111 t40 0)) w fun t41 w =>
    N (xv (Instr.loadAt 109 t41)) w fun t42 w =>
    M (e 1) fun t43 =>
    N (xv (Instr.lookup 109 t42 t43 false)) w fun t44 w =>
    N (xv (Instr.field 114 t44 0)) w fun t45 w =>
    N (xv (Instr.alloc 46 true (.tuple #[]))) w fun t8 w =>
    N (xu (Instr.storeAt 46 t8 t45)) w fun _ w =>
    k (Env.p e 8 t8) w) := nr (by kernel_rfl)
theorem o18_10_eq (N : Sem Next → World → (Value → World → Prop) → Prop) (M : Value → (Value → Prop) → Prop) (G : Bool → ((Value → World → Prop) → Prop) → (Value → World → Prop) → World → Prop) (k : Env → World → Prop) (e : Env) (w : World) : opsW N M G 79 V18 o18_10 k o18_10.toList [] e e w =
    (N (xv (Instr.loadAt 46 (e 8))) w fun t46 w =>
    N (builtin Builtin.len #[46] 3 ([false]).toArray ([t46]).toArray) w fun t47 w =>
    N (xv (Instr.makeFunc (Fn.func 55) ([]).toArray ([(e 8), (e 5)]).toArray)) w fun t48 w =>
    N (xcall (Value.func (Fn.func 54) #[] #[]) [t47, t48]) w fun t49 w =>
    M t49 fun t9 =>
    k (Env.p e 9 t9) w) := nr (by kernel_rfl)
theorem o18_11_eq (N : Sem Next → World → (Value → World → Prop) → Prop) (M : Value → (Value → Prop) → Prop) (G : Bool → ((Value → World → Prop) → Prop) → (Value → World → Prop) → World → Prop) (k : Env → World → Prop) (e : Env) (w : World) : opsW N M G 79 V18 o18_11 k o18_11.toList [] e e w =
    (M (e 1) fun t50 =>
    N (xv (Instr.build 31 ([(0, t50), (3, (Value.int IntKind.i64 4611686018427387904))]).toArray)) w fun t51 w =>
    N (xv (Instr.alloc 31 true (.tuple #[]))) w fun t10 w =>
    N (xu (Instr.storeAt 31 t10 t51)) w fun _ w =>
    k (Env.p e 10 t10) w) := nr (by kernel_rfl)
theorem o18_16_eq (N : Sem Next → World → (Value → World → Prop) → Prop) (M : Value → (Value → Prop) → Prop) (G : Bool → ((Value → World → Prop) → Prop) → (Value → World → Prop) → World → Prop) (k : Env → World → Prop) (e : Env) (w : World) : opsW N M G 79 V18 o18_16 k o18_16.toList [] e e w =
    (N (xv (Instr.loadAt 31 (e 10))) w fun t78 w =>
    N (xu (Instr.storeAt 31 (e 6) t78)) w fun _ w =>
    M (Value.int IntKind.i64 0) fun t7 =>
    k (Env.p e 7 t7) w) := nr (by kernel_rfl)
theorem c18RRRRRRR_s (Q : Exit → Env → World → Prop) (e : Env) (w : World) (hw : Cur w) : W Try.prog 79 V18 c18RRRRRRR Q e w = (opsW (nx Try.prog) mv gdP 79 V18 o18_16 (fun e w => Q .ret e w) o18_16.toList [] e e w) := by
  rw [(by kernel_rfl : c18RRRRRRR = .seq (.region 16 o18_16 false) Code.ret), W_seq_reg]; simp only [W_ret, W_skip, W_exit, W_label]
theorem o18_14_eq (N : Sem Next → World → (Value → World → Prop) → Prop) (M : Value → (Value → Prop) → Prop) (G : Bool → ((Value → World → Prop) → Prop) → (Value → World → Prop) → World → Prop) (k : Env → World → Prop) (e : Env) (w : World) : opsW N M G 79 V18 o18_14 k o18_14.toList [] e e w =
    (M (e 9) fun t62 =>
    N (xv (xbin BinOp.gtr 3 (Operand.tmp 62) (Operand.const (Value.int IntKind.i64 0)) t62 (Value.int IntKind.i64 0))) w fun t63 w =>
    k (Env.p e 63 t63) w) := nr (by kernel_rfl)
theorem o18_15_eq (N : Sem Next → World → (Value → World → Prop) → Prop) (T : Sem Next → (Value → Prop) → Prop) (M : Value → (Value → Prop) → Prop) (G : Bool → ((Value → World → Prop) → Prop) → (Value → World → Prop) → World → Prop) (H : Bool → ((Value → Prop) → Prop) → (Value → Prop) → Prop) (S : World → Prop) (k : Env → World → Prop) (e : Env) (w : World) : drawGo N T M G H 79 V18 o18_15 S k o18_15.size true (Array.replicate o18_15.size false) [] e e w =
    (T (xv (Instr.loadAt 46 (e 8))) fun t64 =>
    M (e 9) fun t65 =>
    T (xv (xbin BinOp.sub 3 (Operand.tmp 65) (Operand.const (Value.int IntKind.i64 1)) t65 (Value.int IntKind.i64 1))) fun t66 =>
    T (xv (Instr.indexAt 46 t64 t66)) fun t67 =>
    T (xv (Instr.fieldAt 106 t67 0)) fun t68 =>
    T (xv (Instr.loadAt 2 t68)) fun t69 =>
    T (xv (Instr.loadAt 46 (e 8))) fun t70 =>
    M (e 9) fun t71 =>
    T (xv (xbin BinOp.sub 3 (Operand.tmp 71) (Operand.const (Value.int IntKind.i64 1)) t71 (Value.int IntKind.i64 1))) fun t72 =>
    T (xv (Instr.indexAt 46 t70 t72)) fun t73 =>
    T (xv (Instr.fieldAt 106 t73 1)) fun t74 =>
    T (xv (Instr.loadAt 29 t74)) fun t75 =>
    T (xv (Instr.fieldAt 31 (e 10) 2)) fun t76 =>
    N (xu (Instr.storeAt 2 t76 t69)) w fun _ w =>
    S w ∧ (T (xv (Instr.fieldAt 31 (e 10) 1)) fun t77 =>
    N (xu (Instr.storeAt 29 t77 t75)) w fun _ w =>
    k e w)) := nr (by kernel_rfl)
theorem c18RRRRRRLRL_s (Q : Exit → Env → World → Prop) (e : Env) (w : World) (hw : Cur w) : W Try.prog 79 V18 c18RRRRRRLRL Q e w = (∃ S : World → Prop, S w.drew ∧ drawGo (nx Try.prog) (takeP Try.prog S) mv gdP gdT 79 V18 o18_15 S (fun e w => Q .normal e w) o18_15.size true (Array.replicate o18_15.size false) [] e e w.drew) := by
  rw [(by kernel_rfl : c18RRRRRRLRL = (.region 15 o18_15 true)), W_regD']
theorem c18RRRRRRLR_v : opV V18 (.tmp 63) = true := by kernel_rfl
theorem c18RRRRRRLR_s (Q : Exit → Env → World → Prop) (e : Env) (w : World) (hw : Cur w) : W Try.prog 79 V18 c18RRRRRRLR Q e w = (condP (ev e (.tmp 63)) (W Try.prog 79 V18 c18RRRRRRLRL Q e w) (Q .normal e w)) := by
  rw [(by kernel_rfl : c18RRRRRRLR = .cond (.tmp 63) c18RRRRRRLRL Code.skip), W_cond, c18RRRRRRLR_v, cond_true]; simp only [W_ret, W_skip, W_exit, W_label]
theorem c18RRRRRRL_s (Q : Exit → Env → World → Prop) (e : Env) (w : World) (hw : Cur w) : W Try.prog 79 V18 c18RRRRRRL Q e w = (opsW (nx Try.prog) mv gdP 79 V18 o18_14 (fun e w => W Try.prog 79 V18 c18RRRRRRLR Q e w) o18_14.toList [] e e w) := by
  rw [(by kernel_rfl : c18RRRRRRL = .seq (.region 14 o18_14 false) c18RRRRRRLR), W_seq_reg]
theorem c18RRRRRR_s (Q : Exit → Env → World → Prop) (e : Env) (w : World) (hw : Cur w) : W Try.prog 79 V18 c18RRRRRR Q e w = (W Try.prog 79 V18 c18RRRRRRL (seqQ (fun e w => W Try.prog 79 V18 c18RRRRRRR Q e w) Q) e w) := by
  rw [(by kernel_rfl : c18RRRRRR = .seq c18RRRRRRL c18RRRRRRR), W_seq]
theorem o18_12_eq (N : Sem Next → World → (Value → World → Prop) → Prop) (M : Value → (Value → Prop) → Prop) (G : Bool → ((Value → World → Prop) → Prop) → (Value → World → Prop) → World → Prop) (k : Env → World → Prop) (e : Env) (w : World) : opsW N M G 79 V18 o18_12 k o18_12.toList [] e e w =
    (M (e 9) fun t52 =>
    N (xv (Instr.loadAt 46 (e 8))) w fun t53 w =>
    N (builtin Builtin.len #[46] 3 ([false]).toArray ([t53]).toArray) w fun t54 w =>
    N (xv (xbin BinOp.lss 3 (Operand.tmp 52) (Operand.tmp 54) t52 t54)) w fun t55 w =>
    k (Env.p e 55 t55) w) := nr (by kernel_rfl)
theorem o18_13_eq (N : Sem Next → World → (Value → World → Prop) → Prop) (M : Value → (Value → Prop) → Prop) (G : Bool → ((Value → World → Prop) → Prop) → (Value → World → Prop) → World → Prop) (k : Env → World → Prop) (e : Env) (w : World) : opsW N M G 79 V18 o18_13 k o18_13.toList [] e e w =
    (N (xv (Instr.loadAt 46 (e 8))) w fun t56 w =>
    M (e 9) fun t57 =>
    N (xv (Instr.indexAt 46 t56 t57)) w fun t58 w =>
    N (xv (Instr.fieldAt 106 t58 0)) w fun t59 w =>
    N (xv (Instr.loadAt 2 t59)) w fun t60 w =>
    N (xv (Instr.fieldAt 31 (e 10) 3)) w fun t61 w =>
    N (xu (Instr.storeAt 2 t61 t60)) w fun _ w =>
    k e w) := nr (by kernel_rfl)
theorem c18RRRRRLRL_s (Q : Exit → Env → World → Prop) (e : Env) (w : World) (hw : Cur w) : W Try.prog 79 V18 c18RRRRRLRL Q e w = (opsW (nx Try.prog) mv gdP 79 V18 o18_13 (fun e w => Q .normal e w) o18_13.toList [] e e w) := by
  rw [(by kernel_rfl : c18RRRRRLRL = (.region 13 o18_13 false)), W_reg]
theorem c18RRRRRLR_v : opV V18 (.tmp 55) = true := by kernel_rfl
theorem c18RRRRRLR_s (Q : Exit → Env → World → Prop) (e : Env) (w : World) (hw : Cur w) : W Try.prog 79 V18 c18RRRRRLR Q e w = (condP (ev e (.tmp 55)) (W Try.prog 79 V18 c18RRRRRLRL Q e w) (Q .normal e w)) := by
  rw [(by kernel_rfl : c18RRRRRLR = .cond (.tmp 55) c18RRRRRLRL Code.skip), W_cond, c18RRRRRLR_v, cond_true]; simp only [W_ret, W_skip, W_exit, W_label]
theorem c18RRRRRL_s (Q : Exit → Env → World → Prop) (e : Env) (w : World) (hw : Cur w) : W Try.prog 79 V18 c18RRRRRL Q e w = (opsW (nx Try.prog) mv gdP 79 V18 o18_12 (fun e w => W Try.prog 79 V18 c18RRRRRLR Q e w) o18_12.toList [] e e w) := by
  rw [(by kernel_rfl : c18RRRRRL = .seq (.region 12 o18_12 false) c18RRRRRLR), W_seq_reg]
theorem c18RRRRR_s (Q : Exit → Env → World → Prop) (e : Env) (w : World) (hw : Cur w) : W Try.prog 79 V18 c18RRRRR Q e w = (W Try.prog 79 V18 c18RRRRRL (seqQ (fun e w => W Try.prog 79 V18 c18RRRRRR Q e w) Q) e w) := by
  rw [(by kernel_rfl : c18RRRRR = .seq c18RRRRRL c18RRRRRR), W_seq]
theorem c18RRRR_s (Q : Exit → Env → World → Prop) (e : Env) (w : World) (hw : Cur w) : W Try.prog 79 V18 c18RRRR Q e w = (opsW (nx Try.prog) mv gdP 79 V18 o18_11 (fun e w => W Try.prog 79 V18 c18RRRRR Q e w) o18_11.toList [] e e w) := by
  rw [(by kernel_rfl : c18RRRR = .seq (.region 11 o18_11 false) c18RRRRR), W_seq_reg]
theorem c18RRR_s (Q : Exit → Env → World → Prop) (e : Env) (w : World) (hw : Cur w) : W Try.prog 79 V18 c18RRR Q e w = (opsW (nx Try.prog) mv gdP 79 V18 o18_10 (fun e w => W Try.prog 79 V18 c18RRRR Q e w) o18_10.toList [] e e w) := by
  rw [(by kernel_rfl : c18RRR = .seq (.region 10 o18_10 false) c18RRRR), W_seq_reg]
theorem c18RR_s (Q : Exit → Env → World → Prop) (e : Env) (w : World) (hw : Cur w) : W Try.prog 79 V18 c18RR Q e w = (opsW (nx Try.prog) mv gdP 79 V18 o18_9 (fun e w => W Try.prog 79 V18 c18RRR Q e w) o18_9.toList [] e e w) := by
  rw [(by kernel_rfl : c18RR = .seq (.region 9 o18_9 false) c18RRR), W_seq_reg]
theorem o18_1_eq (N : Sem Next → World → (Value → World → Prop) → Prop) (M : Value → (Value → Prop) → Prop) (G : Bool → ((Value → World → Prop) → Prop) → (Value → World → Prop) → World → Prop) (k : Env → World → Prop) (e : Env) (w : World) : opsW N M G 79 V18 o18_1 k o18_1.toList [] e e w =
    (M (e 0) fun t12 =>
    N (xv (xbin BinOp.eql 24 (Operand.tmp 12) (Operand.const (Value.pointer none)) t12 (Value.pointer none))) w fun t13 w =>
    M t13 fun t11 =>
    k (Env.p e 11 t11) w) := nr (by kernel_rfl)
theorem o18_2_eq (N : Sem Next → World → (Value → World → Prop) → Prop) (M : Value → (Value → Prop) → Prop) (G : Bool → ((Value → World → Prop) → Prop) → (Value → World → Prop) → World → Prop) (k : Env → World → Prop) (e : Env) (w : World) : opsW N M G 79 V18 o18_2 k o18_2.toList [] e e w =
    (N (xv (Instr.build 31 ([]).toArray)) w fun t14 w =>
    N (xu (Instr.storeAt 31 (e 6) t14)) w fun _ w =>
    M (Value.int IntKind.i64 3) fun t7 =>
    k (Env.p e 7 t7) w) := nr (by kernel_rfl)
theorem c18RLLRL_s (Q : Exit → Env → World → Prop) (e : Env) (w : World) (hw : Cur w) : W Try.prog 79 V18 c18RLLRL Q e w = (opsW (nx Try.prog) mv gdP 79 V18 o18_2 (fun e w => Q .ret e w) o18_2.toList [] e e w) := by
  rw [(by kernel_rfl : c18RLLRL = .seq (.region 2 o18_2 false) Code.ret), W_seq_reg]; simp only [W_ret, W_skip, W_exit, W_label]
theorem o18_3_eq (N : Sem Next → World → (Value → World → Prop) → Prop) (M : Value → (Value → Prop) → Prop) (G : Bool → ((Value → World → Prop) → Prop) → (Value → World → Prop) → World → Prop) (k : Env → World → Prop) (e : Env) (w : World) : opsW N M G 79 V18 o18_3 k o18_3.toList [] e e w =
    (M (e 1) fun t16 =>
    N (xcall (Value.func (Fn.func 53) #[] #[]) [t16]) w fun t17 w =>
    N (xv (Op.unary UnOp.not t17)) w fun t18 w =>
    M t18 fun t19 =>
    G (isB t19 false) (fun K => N (xv (Instr.loadAt 2 (e 5))) w K) (fun t20 w =>
    G (isB t19 false) (fun K => N (xv (xbin BinOp.lss 2 (Operand.tmp 20) (Operand.const (Value.int IntKind.i64 0)) t20 (Value.int IntKind.i64 0))) w K) (fun t21 w =>
    N (xpick t19 (Value.bool true) t21) w fun t22 w =>
    M t22 fun t15 =>
    k (Env.p e 15 t15) w) w) w) := nr (by kernel_rfl)
theorem o18_4_eq (N : Sem Next → World → (Value → World → Prop) → Prop) (M : Value → (Value → Prop) → Prop) (G : Bool → ((Value → World → Prop) → Prop) → (Value → World → Prop) → World → Prop) (k : Env → World → Prop) (e : Env) (w : World) : opsW N M G 79 V18 o18_4 k o18_4.toList [] e e w =
    (N (xv (Instr.build 31 ([]).toArray)) w fun t23 w =>
    N (xu (Instr.storeAt 31 (e 6) t23)) w fun _ w =>
    M (Value.int IntKind.i64 1) fun t7 =>
    k (Env.p e 7 t7) w) := nr (by kernel_rfl)
theorem c18RLLRRRL_s (Q : Exit → Env → World → Prop) (e : Env) (w : World) (hw : Cur w) : W Try.prog 79 V18 c18RLLRRRL Q e w = (opsW (nx Try.prog) mv gdP 79 V18 o18_4 (fun e w => Q .ret e w) o18_4.toList [] e e w) := by
  rw [(by kernel_rfl : c18RLLRRRL = .seq (.region 4 o18_4 false) Code.ret), W_seq_reg]; simp only [W_ret, W_skip, W_exit, W_label]
theorem o18_5_eq (N : Sem Next → World → (Value → World → Prop) → Prop) (T : Sem Next → (Value → Prop) → Prop) (M : Value → (Value → Prop) → Prop) (G : Bool → ((Value → World → Prop) → Prop) → (Value → World → Prop) → World → Prop) (H : Bool → ((Value → Prop) → Prop) → (Value → Prop) → Prop) (S : World → Prop) (k : Env → World → Prop) (e : Env) (w : World) : drawGo N T M G H 79 V18 o18_5 S k o18_5.size true (Array.replicate o18_5.size false) [] e e w =
    (T (xv (Instr.loadAt 2 (e 5))) fun t25 =>
    M (e 0) fun t26 =>
    T (xnil t26) fun t27 =>
    T (xv (Instr.fieldAt 111 t27 2)) fun t28 =>
    T (xv (Instr.loadAt 2 t28)) fun t29 =>
    T (xv (xbin BinOp.gtr 2 (Operand.tmp 25) (Operand.tmp 29) t25 t29)) fun t30 =>
    M t30 fun t24 =>
    k (Env.p e 24 t24) w) := nr (by kernel_rfl)
theorem o18_6_eq (N : Sem Next → World → (Value → World → Prop) → Prop) (M : Value → (Value → Prop) → Prop) (G : Bool → ((Value → World → Prop) → Prop) → (Value → World → Prop) → World → Prop) (k : Env → World → Prop) (e : Env) (w : World) : opsW N M G 79 V18 o18_6 k o18_6.toList [] e e w =
    (N (xv (Instr.build 31 ([]).toArray)) w fun t31 w =>
    N (xu (Instr.storeAt 31 (e 6) t31)) w fun _ w =>
    M (Value.int IntKind.i64 21) fun t7 =>
    k (Env.p e 7 t7) w) := nr (by kernel_rfl)
theorem c18RLLRRRRRL_s (Q : Exit → Env → World → Prop) (e : Env) (w : World) (hw : Cur w) : W Try.prog 79 V18 c18RLLRRRRRL Q e w = (opsW (nx Try.prog) mv gdP 79 V18 o18_6 (fun e w => Q .ret e w) o18_6.toList [] e e w) := by
  rw [(by kernel_rfl : c18RLLRRRRRL = .seq (.region 6 o18_6 false) Code.ret), W_seq_reg]; simp only [W_ret, W_skip, W_exit, W_label]
theorem o18_7_eq (N : Sem Next → World → (Value → World → Prop) → Prop) (T : Sem Next → (Value → Prop) → Prop) (M : Value → (Value → Prop) → Prop) (G : Bool → ((Value → World → Prop) → Prop) → (Value → World → Prop) → World → Prop) (H : Bool → ((Value → Prop) → Prop) → (Value → Prop) → Prop) (S : World → Prop) (k : Env → World → Prop) (e : Env) (w : World) : drawGo N T M G H 79 V18 o18_7 S k o18_7.size true (Array.replicate o18_7.size false) [] e e w =
    (T (xv (Instr.loadAt 2 (e 5))) fun t33 =>
    M (e 0) fun t34 =>
    M (e 1) fun t35 =>
    N (xcall (Value.func (Fn.func 19) #[] #[]) [t34, t35]) w fun t36 w =>
    S w ∧ (T (xv (xbin BinOp.lss 2 (Operand.tmp 33) (Operand.tmp 36) t33 t36)) fun t37 =>
    M t37 fun t32 =>
    k (Env.p e 32 t32) w)) := nr (by kernel_rfl)
theorem o18_8_eq (N : Sem Next → World → (Value → World → Prop) → Prop) (M : Value → (Value → Prop) → Prop) (G : Bool → ((Value → World → Prop) → Prop) → (Value → World → Prop) → World → Prop) (k : Env → World → Prop) (e : Env) (w : World) : opsW N M G 79 V18 o18_8 k o18_8.toList [] e e w =
    (N (xv (Instr.build 31 ([]).toArray)) w fun t38 w =>
    N (xu (Instr.storeAt 31 (e 6) t38)) w fun _ w =>
    M (Value.int IntKind.i64 20) fun t7 =>
    k (Env.p e 7 t7) w) := nr (by kernel_rfl)
theorem c18RLLRRRRRRRL_s (Q : Exit → Env → World → Prop) (e : Env) (w : World) (hw : Cur w) : W Try.prog 79 V18 c18RLLRRRRRRRL Q e w = (opsW (nx Try.prog) mv gdP 79 V18 o18_8 (fun e w => Q .ret e w) o18_8.toList [] e e w) := by
  rw [(by kernel_rfl : c18RLLRRRRRRRL = .seq (.region 8 o18_8 false) Code.ret), W_seq_reg]; simp only [W_ret, W_skip, W_exit, W_label]
theorem c18RLLRRRRRRR_v : opV V18 (.tmp 32) = true := by kernel_rfl
theorem c18RLLRRRRRRR_s (Q : Exit → Env → World → Prop) (e : Env) (w : World) (hw : Cur w) : W Try.prog 79 V18 c18RLLRRRRRRR Q e w = (condP (ev e (.tmp 32)) (W Try.prog 79 V18 c18RLLRRRRRRRL Q e w) (Q .normal e w)) := by
  rw [(by kernel_rfl : c18RLLRRRRRRR = .cond (.tmp 32) c18RLLRRRRRRRL Code.skip), W_cond, c18RLLRRRRRRR_v, cond_true]; simp only [W_ret, W_skip, W_exit, W_label]
theorem c18RLLRRRRRR_s (Q : Exit → Env → World → Prop) (e : Env) (w : World) (hw : Cur w) : W Try.prog 79 V18 c18RLLRRRRRR Q e w = (∃ S : World → Prop, S w.drew ∧ drawGo (nx Try.prog) (takeP Try.prog S) mv gdP gdT 79 V18 o18_7 S (fun e w => W Try.prog 79 V18 c18RLLRRRRRRR Q e w) o18_7.size true (Array.replicate o18_7.size false) [] e e w.drew) := by
  rw [(by kernel_rfl : c18RLLRRRRRR = .seq (.region 7 o18_7 true) c18RLLRRRRRRR), W_seq_regD]
theorem c18RLLRRRRR_v : opV V18 (.tmp 24) = true := by kernel_rfl
theorem c18RLLRRRRR_s (Q : Exit → Env → World → Prop) (e : Env) (w : World) (hw : Cur w) : W Try.prog 79 V18 c18RLLRRRRR Q e w = (condP (ev e (.tmp 24)) (W Try.prog 79 V18 c18RLLRRRRRL Q e w) (W Try.prog 79 V18 c18RLLRRRRRR Q e w)) := by
  rw [(by kernel_rfl : c18RLLRRRRR = .cond (.tmp 24) c18RLLRRRRRL c18RLLRRRRRR), W_cond, c18RLLRRRRR_v, cond_true]
theorem c18RLLRRRR_s (Q : Exit → Env → World → Prop) (e : Env) (w : World) (hw : Cur w) : W Try.prog 79 V18 c18RLLRRRR Q e w = (∃ S : World → Prop, S w.drew ∧ drawGo (nx Try.prog) (takeP Try.prog S) mv gdP gdT 79 V18 o18_5 S (fun e w => W Try.prog 79 V18 c18RLLRRRRR Q e w) o18_5.size true (Array.replicate o18_5.size false) [] e e w.drew) := by
  rw [(by kernel_rfl : c18RLLRRRR = .seq (.region 5 o18_5 true) c18RLLRRRRR), W_seq_regD]
theorem c18RLLRRR_v : opV V18 (.tmp 15) = true := by kernel_rfl
theorem c18RLLRRR_s (Q : Exit → Env → World → Prop) (e : Env) (w : World) (hw : Cur w) : W Try.prog 79 V18 c18RLLRRR Q e w = (condP (ev e (.tmp 15)) (W Try.prog 79 V18 c18RLLRRRL Q e w) (W Try.prog 79 V18 c18RLLRRRR Q e w)) := by
  rw [(by kernel_rfl : c18RLLRRR = .cond (.tmp 15) c18RLLRRRL c18RLLRRRR), W_cond, c18RLLRRR_v, cond_true]
theorem c18RLLRR_s (Q : Exit → Env → World → Prop) (e : Env) (w : World) (hw : Cur w) : W Try.prog 79 V18 c18RLLRR Q e w = (opsW (nx Try.prog) mv gdP 79 V18 o18_3 (fun e w => W Try.prog 79 V18 c18RLLRRR Q e w) o18_3.toList [] e e w) := by
  rw [(by kernel_rfl : c18RLLRR = .seq (.region 3 o18_3 false) c18RLLRRR), W_seq_reg]
theorem c18RLLR_v : opV V18 (.tmp 11) = true := by kernel_rfl
theorem c18RLLR_s (Q : Exit → Env → World → Prop) (e : Env) (w : World) (hw : Cur w) : W Try.prog 79 V18 c18RLLR Q e w = (condP (ev e (.tmp 11)) (W Try.prog 79 V18 c18RLLRL Q e w) (W Try.prog 79 V18 c18RLLRR Q e w)) := by
  rw [(by kernel_rfl : c18RLLR = .cond (.tmp 11) c18RLLRL c18RLLRR), W_cond, c18RLLR_v, cond_true]
theorem c18RLL_s (Q : Exit → Env → World → Prop) (e : Env) (w : World) (hw : Cur w) : W Try.prog 79 V18 c18RLL Q e w = (opsW (nx Try.prog) mv gdP 79 V18 o18_1 (fun e w => W Try.prog 79 V18 c18RLLR Q e w) o18_1.toList [] e e w) := by
  rw [(by kernel_rfl : c18RLL = .seq (.region 1 o18_1 false) c18RLLR), W_seq_reg]
theorem c18RL_s (Q : Exit → Env → World → Prop) (e : Env) (w : World) (hw : Cur w) : W Try.prog 79 V18 c18RL Q e w = (W Try.prog 79 V18 c18RLL (blockQ 0 Q) e w) := by
  rw [(by kernel_rfl : c18RL = .block 0 c18RLL), W_block]
theorem c18R_s (Q : Exit → Env → World → Prop) (e : Env) (w : World) (hw : Cur w) : W Try.prog 79 V18 c18R Q e w = (W Try.prog 79 V18 c18RL (seqQ (fun e w => W Try.prog 79 V18 c18RR Q e w) Q) e w) := by
  rw [(by kernel_rfl : c18R = .seq c18RL c18RR), W_seq]
theorem c18_s (Q : Exit → Env → World → Prop) (e : Env) (w : World) (hw : Cur w) : W Try.prog 79 V18 c18 Q e w = (opsW (nx Try.prog) mv gdP 79 V18 o18_0 (fun e w => W Try.prog 79 V18 c18R Q e w) o18_0.toList [] e e w) := by
  rw [(by kernel_rfl : c18 = .seq (.region 0 o18_0 false) c18R), W_seq_reg]
theorem call18 {a0 a1 a2 : Value} {w : World} {R : Value → World → Prop} (h : W Try.prog 79 V18 c18 (retQ Try.prog [.cell 6 31, .tmp 7] R) (argE [a0, a1, a2]) w) : CallsN Try.prog 18 [a0, a1, a2] w R :=
  callsN_of_W (c := c18) (rs := [.cell 6 31, .tmp 7]) V18 Try.ntmps18 (by rw [Try.results18]) mixed Try.func18 (by kernel_rfl) (by kernel_rfl) (by kernel_rfl) (by kernel_rfl) (by simp) h
-- K18: ↓o18_0_eq, ↓o18_9_eq, ↓o18_10_eq, ↓o18_11_eq, ↓o18_16_eq, ↓c18RRRRRRR_s, ↓o18_14_eq, ↓o18_15_eq, ↓c18RRRRRRLRL_s, ↓c18RRRRRRLR_s, ↓c18RRRRRRL_s, ↓c18RRRRRR_s, ↓o18_12_eq, ↓o18_13_eq, ↓c18RRRRRLRL_s, ↓c18RRRRRLR_s, ↓c18RRRRRL_s, ↓c18RRRRR_s, ↓c18RRRR_s, ↓c18RRR_s, ↓c18RR_s, ↓o18_1_eq, ↓o18_2_eq, ↓c18RLLRL_s, ↓o18_3_eq, ↓o18_4_eq, ↓c18RLLRRRL_s, ↓o18_5_eq, ↓o18_6_eq, ↓c18RLLRRRRRL_s, ↓o18_7_eq, ↓o18_8_eq, ↓c18RLLRRRRRRRL_s, ↓c18RLLRRRRRRR_s, ↓c18RLLRRRRRR_s, ↓c18RLLRRRRR_s, ↓c18RLLRRRR_s, ↓c18RLLRRR_s, ↓c18RLLRR_s, ↓c18RLLR_s, ↓c18RLL_s, ↓c18RL_s, ↓c18R_s, ↓c18_s
/-! ### (*vouch/store.Store) . Oldest -/
def V19 : Nat → Bool := fun i => [0, 1, 4, 16].elem i
noncomputable def c19 : Code := (Try.f19.body.getD .skip)
noncomputable def o19_0 : Array Oper := rO (cL (Try.f19.body.getD .skip))
noncomputable def c19R : Code := (cR (Try.f19.body.getD .skip))
noncomputable def c19RR : Code := (cR (cR (Try.f19.body.getD .skip)))
noncomputable def o19_3 : Array Oper := rO (cL (cR (cR (Try.f19.body.getD .skip))))
noncomputable def c19RL : Code := (cL (cR (Try.f19.body.getD .skip)))
noncomputable def o19_1 : Array Oper := rO (cL (cL (cR (Try.f19.body.getD .skip))))
noncomputable def c19RLR : Code := (cR (cL (cR (Try.f19.body.getD .skip))))
noncomputable def c19RLRL : Code := (cL (cR (cL (cR (Try.f19.body.getD .skip)))))
noncomputable def o19_2 : Array Oper := rO (cL (cL (cR (cL (cR (Try.f19.body.getD .skip))))))
theorem o19_0_eq (N : Sem Next → World → (Value → World → Prop) → Prop) (M : Value → (Value → Prop) → Prop) (G : Bool → ((Value → World → Prop) → Prop) → (Value → World → Prop) → World → Prop) (k : Env → World → Prop) (e : Env) (w : World) : opsW N M G 27 V19 o19_0 k o19_0.toList [] e e w =
    (M (Value.int IntKind.i64 0) fun t4 =>
    k (Env.p e 4 t4) w) := nr (by kernel_rfl)
theorem o19_3_eq (N : Sem Next → World → (Value → World → Prop) → Prop) (M : Value → (Value → Prop) → Prop) (G : Bool → ((Value → World → Prop) → Prop) → (Value → World → Prop) → World → Prop) (k : Env → World → Prop) (e : Env) (w : World) : opsW N M G 27 V19 o19_3 k o19_3.toList [] e e w =
    (M (e 0) fun t17 =>
    N (xnil t17) w fun t18 w =>
    N (xv (Instr.fieldAt 111 t18 0)) w fun t19 w =>
    N (xv (Instr.loadAt 109 t19)) w fun t20 w =>
    M (e 1) fun t21 =>
    N (xv (Instr.lookup 109 t20 t21 false)) w fun t22 w =>
    N (xv (Instr.field 114 t22 0)) w fun t23 w =>
    N (xv (Instr.indexAt 46 t23 (Value.int IntKind.i64 0))) w fun t24 w =>
    N (xv (Instr.fieldAt 106 t24 0)) w fun t25 w =>
    N (xv (Instr.loadAt 2 t25)) w fun t26 w =>
    M t26 fun t4 =>
    k (Env.p e 4 t4) w) := nr (by kernel_rfl)
theorem c19RR_s (Q : Exit → Env → World → Prop) (e : Env) (w : World) (hw : Cur w) : W Try.prog 27 V19 c19RR Q e w = (opsW (nx Try.prog) mv gdP 27 V19 o19_3 (fun e w => Q .ret e w) o19_3.toList [] e e w) := by
  rw [(by kernel_rfl : c19RR = .seq (.region 3 o19_3 false) Code.ret), W_seq_reg]; simp only [W_ret, W_skip, W_exit, W_label]
theorem o19_1_eq (N : Sem Next → World → (Value → World → Prop) → Prop) (M : Value → (Value → Prop) → Prop) (G : Bool → ((Value → World → Prop) → Prop) → (Value → World → Prop) → World → Prop) (k : Env → World → Prop) (e : Env) (w : World) : opsW N M G 27 V19 o19_1 k o19_1.toList [] e e w =
    (M (e 0) fun t5 =>
    N (xv (xbin BinOp.eql 24 (Operand.tmp 5) (Operand.const (Value.pointer none)) t5 (Value.pointer none))) w fun t6 w =>
    M t6 fun t7 =>
    G (isB t7 false) (fun K => M (e 0) fun v => K v w) (fun t8 w =>
    G (isB t7 false) (fun K => N (xnil t8) w K) (fun t9 w =>
    G (isB t7 false) (fun K => N (xv (Instr.fieldAt 111 t9 0)) w K) (fun t10 w =>
    G (isB t7 false) (fun K => N (xv (Instr.loadAt 109 t10)) w K) (fun t11 w =>
    G (isB t7 false) (fun K => M (e 1) fun v => K v w) (fun t12 w =>
    G (isB t7 false) (fun K => N (xv (Instr.lookup 109 t11 t12 false)) w K) (fun t13 w =>
    G (isB t7 false) (fun K => N (xv (Instr.field 114 t13 1)) w K) (fun t14 w =>
    G (isB t7 false) (fun K => N (xv (Op.unary UnOp.not t14)) w K) (fun t15 w =>
    N (xpick t7 (Value.bool true) t15) w fun t16 w =>
    k (Env.p e 16 t16) w) w) w) w) w) w) w) w) w) := nr (by kernel_rfl)
theorem o19_2_eq (N : Sem Next → World → (Value → World → Prop) → Prop) (M : Value → (Value → Prop) → Prop) (G : Bool → ((Value → World → Prop) → Prop) → (Value → World → Prop) → World → Prop) (k : Env → World → Prop) (e : Env) (w : World) : opsW N M G 27 V19 o19_2 k o19_2.toList [] e e w =
    (M (Value.int IntKind.i64 0) fun t4 =>
    k (Env.p e 4 t4) w) := nr (by kernel_rfl)
theorem c19RLRL_s (Q : Exit → Env → World → Prop) (e : Env) (w : World) (hw : Cur w) : W Try.prog 27 V19 c19RLRL Q e w = (opsW (nx Try.prog) mv gdP 27 V19 o19_2 (fun e w => Q .ret e w) o19_2.toList [] e e w) := by
  rw [(by kernel_rfl : c19RLRL = .seq (.region 2 o19_2 false) Code.ret), W_seq_reg]; simp only [W_ret, W_skip, W_exit, W_label]
theorem c19RLR_v : opV V19 (.tmp 16) = true := by kernel_rfl
theorem c19RLR_s (Q : Exit → Env → World → Prop) (e : Env) (w : World) (hw : Cur w) : W Try.prog 27 V19 c19RLR Q e w = (condP (ev e (.tmp 16)) (W Try.prog 27 V19 c19RLRL Q e w) (Q .normal e w)) := by
  rw [(by kernel_rfl : c19RLR = .cond (.tmp 16) c19RLRL Code.skip), W_cond, c19RLR_v, cond_true]; simp only [W_ret, W_skip, W_exit, W_label]
theorem c19RL_s (Q : Exit → Env → World → Prop) (e : Env) (w : World) (hw : Cur w) : W Try.prog 27 V19 c19RL Q e w = (opsW (nx Try.prog) mv gdP 27 V19 o19_1 (fun e w => W Try.prog 27 V19 c19RLR Q e w) o19_1.toList [] e e w) := by
  rw [(by kernel_rfl : c19RL = .seq (.region 1 o19_1 false) c19RLR), W_seq_reg]
theorem c19R_s (Q : Exit → Env → World → Prop) (e : Env) (w : World) (hw : Cur w) : W Try.prog 27 V19 c19R Q e w = (W Try.prog 27 V19 c19RL (seqQ (fun e w => W Try.prog 27 V19 c19RR Q e w) Q) e w) := by
  rw [(by kernel_rfl : c19R = .seq c19RL c19RR), W_seq]
theorem c19_s (Q : Exit → Env → World → Prop) (e : Env) (w : World) (hw : Cur w) : W Try.prog 27 V19 c19 Q e w = (opsW (nx Try.prog) mv gdP 27 V19 o19_0 (fun e w => W Try.prog 27 V19 c19R Q e w) o19_0.toList [] e e w) := by
  rw [(by kernel_rfl : c19 = .seq (.region 0 o19_0 false) c19R), W_seq_reg]
theorem call19 {a0 a1 : Value} {w : World} {R : Value → World → Prop} (h : W Try.prog 27 V19 c19 (retQ Try.prog [.tmp 4] R) (argE [a0, a1]) w) : CallsN Try.prog 19 [a0, a1] w R :=
  callsN_of_W (c := c19) (rs := [.tmp 4]) V19 Try.ntmps19 (by rw [Try.results19]) mixed Try.func19 (by kernel_rfl) (by kernel_rfl) (by kernel_rfl) (by kernel_rfl) (by simp) h
-- K19: ↓o19_0_eq, ↓o19_3_eq, ↓c19RR_s, ↓o19_1_eq, ↓o19_2_eq, ↓c19RLRL_s, ↓c19RLR_s, ↓c19RL_s, ↓c19R_s, ↓c19_s
/-! ### vouch/vouchlaw05.at -/
def V20 : Nat → Bool := fun i => [0, 1, 2, 6, 7, 8, 9, 13, 22, 34].elem i
noncomputable def c20 : Code := (Try.f20.body.getD .skip)
noncomputable def o20_0 : Array Oper := rO (cL (Try.f20.body.getD .skip))
noncomputable def c20R : Code := (cR (Try.f20.body.getD .skip))
noncomputable def o20_1 : Array Oper := rO (cL (cR (Try.f20.body.getD .skip)))
noncomputable def c20RR : Code := (cR (cR (Try.f20.body.getD .skip)))
noncomputable def c20RRR : Code := (cR (cR (cR (Try.f20.body.getD .skip))))
noncomputable def o20_10 : Array Oper := rO (cL (cR (cR (cR (Try.f20.body.getD .skip)))))
noncomputable def c20RRL : Code := (cL (cR (cR (Try.f20.body.getD .skip))))
noncomputable def o20_2 : Array Oper := rO (cL (cL (cR (cR (Try.f20.body.getD .skip)))))
noncomputable def c20RRLR : Code := (cR (cL (cR (cR (Try.f20.body.getD .skip)))))
noncomputable def c20RRLRL : Code := (cL (cR (cL (cR (cR (Try.f20.body.getD .skip))))))
noncomputable def c20RRLRLL : Code := (cL (cL (cR (cL (cR (cR (Try.f20.body.getD .skip)))))))
noncomputable def c20RRLRLLR : Code := (cR (cL (cL (cR (cL (cR (cR (Try.f20.body.getD .skip))))))))
noncomputable def c20RRLRLLRR : Code := (cR (cR (cL (cL (cR (cL (cR (cR (Try.f20.body.getD .skip)))))))))
noncomputable def o20_4 : Array Oper := rO (cR (cR (cL (cL (cR (cL (cR (cR (Try.f20.body.getD .skip)))))))))
noncomputable def c20RRLRLLRL : Code := (cL (cR (cL (cL (cR (cL (cR (cR (Try.f20.body.getD .skip)))))))))
noncomputable def c20RRLRLLRLL : Code := (cL (cL (cR (cL (cL (cR (cL (cR (cR (Try.f20.body.getD .skip))))))))))
noncomputable def o20_5 : Array Oper := rO (cL (cL (cL (cR (cL (cL (cR (cL (cR (cR (Try.f20.body.getD .skip)))))))))))
noncomputable def c20RRLRLLRLLR : Code := (cR (cL (cL (cR (cL (cL (cR (cL (cR (cR (Try.f20.body.getD .skip)))))))))))
noncomputable def c20RRLRLLRLLRL : Code := (cL (cR (cL (cL (cR (cL (cL (cR (cL (cR (cR (Try.f20.body.getD .skip))))))))))))
noncomputable def c20RRLRLLRLLRLL : Code := (cL (cL (cR (cL (cL (cR (cL (cL (cR (cL (cR (cR (Try.f20.body.getD .skip)))))))))))))
noncomputable def c20RRLRLLRLLRLLR : Code := (cR (cL (cL (cR (cL (cL (cR (cL (cL (cR (cL (cR (cR (Try.f20.body.getD .skip))))))))))))))
noncomputable def c20RRLRLLRLLRLLRR : Code := (cR (cR (cL (cL (cR (cL (cL (cR (cL (cL (cR (cL (cR (cR (Try.f20.body.getD .skip)))))))))))))))
noncomputable def o20_7 : Array Oper := rO (cR (cR (cL (cL (cR (cL (cL (cR (cL (cL (cR (cL (cR (cR (Try.f20.body.getD .skip)))))))))))))))
noncomputable def c20RRLRLLRLLRLLRL : Code := (cL (cR (cL (cL (cR (cL (cL (cR (cL (cL (cR (cL (cR (cR (Try.f20.body.getD .skip)))))))))))))))
noncomputable def c20RRLRLLRLLRLLRLL : Code := (cL (cL (cR (cL (cL (cR (cL (cL (cR (cL (cL (cR (cL (cR (cR (Try.f20.body.getD .skip))))))))))))))))
noncomputable def o20_8 : Array Oper := rO (cL (cL (cL (cR (cL (cL (cR (cL (cL (cR (cL (cL (cR (cL (cR (cR (Try.f20.body.getD .skip)))))))))))))))))
noncomputable def c20RRLRLLRLLRLLRLLR : Code := (cR (cL (cL (cR (cL (cL (cR (cL (cL (cR (cL (cL (cR (cL (cR (cR (Try.f20.body.getD .skip)))))))))))))))))
noncomputable def c20RRLRLLRLLRLLRLLRL : Code := (cL (cR (cL (cL (cR (cL (cL (cR (cL (cL (cR (cL (cL (cR (cL (cR (cR (Try.f20.body.getD .skip))))))))))))))))))
noncomputable def o20_9 : Array Oper := rO (cL (cR (cL (cL (cR (cL (cL (cR (cL (cL (cR (cL (cL (cR (cL (cR (cR (Try.f20.body.getD .skip))))))))))))))))))
noncomputable def c20RRLRLLRLLRLLL : Code := (cL (cL (cL (cR (cL (cL (cR (cL (cL (cR (cL (cR (cR (Try.f20.body.getD .skip))))))))))))))
noncomputable def o20_6 : Array Oper := rO (cL (cL (cL (cL (cR (cL (cL (cR (cL (cL (cR (cL (cR (cR (Try.f20.body.getD .skip)))))))))))))))
noncomputable def c20RRLRLLRLLRLLLR : Code := (cR (cL (cL (cL (cR (cL (cL (cR (cL (cL (cR (cL (cR (cR (Try.f20.body.getD .skip)))))))))))))))
noncomputable def c20RRLRLLL : Code := (cL (cL (cL (cR (cL (cR (cR (Try.f20.body.getD .skip))))))))
noncomputable def o20_3 : Array Oper := rO (cL (cL (cL (cL (cR (cL (cR (cR (Try.f20.body.getD .skip)))))))))
noncomputable def c20RRLRLLLR : Code := (cR (cL (cL (cL (cR (cL (cR (cR (Try.f20.body.getD .skip)))))))))
theorem o20_0_eq (N : Sem Next → World → (Value → World → Prop) → Prop) (M : Value → (Value → Prop) → Prop) (G : Bool → ((Value → World → Prop) → Prop) → (Value → World → Prop) → World → Prop) (k : Env → World → Prop) (e : Env) (w : World) : opsW N M G 44 V20 o20_0 k o20_0.toList [] e e w =
    (N (xv (Instr.alloc 29 true (.tuple #[]))) w fun t6 w =>
    k (Env.p e 6 t6) w) := nr (by kernel_rfl)
theorem o20_1_eq (N : Sem Next → World → (Value → World → Prop) → Prop) (M : Value → (Value → Prop) → Prop) (G : Bool → ((Value → World → Prop) → Prop) → (Value → World → Prop) → World → Prop) (k : Env → World → Prop) (e : Env) (w : World) : opsW N M G 44 V20 o20_1 k o20_1.toList [] e e w =
    (N (xv (Instr.build 29 ([]).toArray)) w fun t10 w =>
    N (xv (Instr.alloc 29 true (.tuple #[]))) w fun t7 w =>
    N (xu (Instr.storeAt 29 t7 t10)) w fun _ w =>
    k (Env.p e 7 t7) w) := nr (by kernel_rfl)
theorem o20_10_eq (N : Sem Next → World → (Value → World → Prop) → Prop) (M : Value → (Value → Prop) → Prop) (G : Bool → ((Value → World → Prop) → Prop) → (Value → World → Prop) → World → Prop) (k : Env → World → Prop) (e : Env) (w : World) : opsW N M G 44 V20 o20_10 k o20_10.toList [] e e w =
    (N (xv (Instr.loadAt 29 (e 7))) w fun t43 w =>
    N (xu (Instr.storeAt 29 (e 6) t43)) w fun _ w =>
    k e w) := nr (by kernel_rfl)
theorem c20RRR_s (Q : Exit → Env → World → Prop) (e : Env) (w : World) (hw : Cur w) : W Try.prog 44 V20 c20RRR Q e w = (opsW (nx Try.prog) mv gdP 44 V20 o20_10 (fun e w => Q .ret e w) o20_10.toList [] e e w) := by
  rw [(by kernel_rfl : c20RRR = .seq (.region 10 o20_10 false) Code.ret), W_seq_reg]; simp only [W_ret, W_skip, W_exit, W_label]
theorem o20_2_eq (N : Sem Next → World → (Value → World → Prop) → Prop) (M : Value → (Value → Prop) → Prop) (G : Bool → ((Value → World → Prop) → Prop) → (Value → World → Prop) → World → Prop) (k : Env → World → Prop) (e : Env) (w : World) : opsW N M G 44 V20 o20_2 k o20_2.toList [] e e w =
    (M (Value.int IntKind.i64 0) fun t8 =>
    k (Env.p e 8 t8) w) := nr (by kernel_rfl)
theorem o20_4_eq (N : Sem Next → World → (Value → World → Prop) → Prop) (M : Value → (Value → Prop) → Prop) (G : Bool → ((Value → World → Prop) → Prop) → (Value → World → Prop) → World → Prop) (k : Env → World → Prop) (e : Env) (w : World) : opsW N M G 44 V20 o20_4 k o20_4.toList [] e e w =
    (M (e 8) fun t14 =>
    N (xv (xbin BinOp.add 3 (Operand.tmp 14) (Operand.const (Value.int IntKind.i64 1)) t14 (Value.int IntKind.i64 1))) w fun t15 w =>
    M t15 fun t8 =>
    k (Env.p e 8 t8) w) := nr (by kernel_rfl)
theorem c20RRLRLLRR_s (Q : Exit → Env → World → Prop) (e : Env) (w : World) (hw : Cur w) : W Try.prog 44 V20 c20RRLRLLRR Q e w = (opsW (nx Try.prog) mv gdP 44 V20 o20_4 (fun e w => Q .normal e w) o20_4.toList [] e e w) := by
  rw [(by kernel_rfl : c20RRLRLLRR = (.region 4 o20_4 false)), W_reg]
theorem o20_5_eq (N : Sem Next → World → (Value → World → Prop) → Prop) (M : Value → (Value → Prop) → Prop) (G : Bool → ((Value → World → Prop) → Prop) → (Value → World → Prop) → World → Prop) (k : Env → World → Prop) (e : Env) (w : World) : opsW N M G 44 V20 o20_5 k o20_5.toList [] e e w =
    (M (Value.int IntKind.i64 0) fun t9 =>
    k (Env.p e 9 t9) w) := nr (by kernel_rfl)
theorem o20_7_eq (N : Sem Next → World → (Value → World → Prop) → Prop) (M : Value → (Value → Prop) → Prop) (G : Bool → ((Value → World → Prop) → Prop) → (Value → World → Prop) → World → Prop) (k : Env → World → Prop) (e : Env) (w : World) : opsW N M G 44 V20 o20_7 k o20_7.toList [] e e w =
    (M (e 9) fun t23 =>
    N (xv (xbin BinOp.add 3 (Operand.tmp 23) (Operand.const (Value.int IntKind.i64 1)) t23 (Value.int IntKind.i64 1))) w fun t24 w =>
    M t24 fun t9 =>
    k (Env.p e 9 t9) w) := nr (by kernel_rfl)
theorem c20RRLRLLRLLRLLRR_s (Q : Exit → Env → World → Prop) (e : Env) (w : World) (hw : Cur w) : W Try.prog 44 V20 c20RRLRLLRLLRLLRR Q e w = (opsW (nx Try.prog) mv gdP 44 V20 o20_7 (fun e w => Q .normal e w) o20_7.toList [] e e w) := by
  rw [(by kernel_rfl : c20RRLRLLRLLRLLRR = (.region 7 o20_7 false)), W_reg]
theorem o20_8_eq (N : Sem Next → World → (Value → World → Prop) → Prop) (M : Value → (Value → Prop) → Prop) (G : Bool → ((Value → World → Prop) → Prop) → (Value → World → Prop) → World → Prop) (k : Env → World → Prop) (e : Env) (w : World) : opsW N M G 44 V20 o20_8 k o20_8.toList [] e e w =
    (M (e 0) fun t25 =>
    M (e 8) fun t26 =>
    N (xv (Instr.indexAt 22 t25 t26)) w fun t27 w =>
    N (xv (Instr.loadAt 40 t27)) w fun t28 w =>
    M (e 9) fun t29 =>
    N (xv (Instr.indexAt 40 t28 t29)) w fun t30 w =>
    N (xv (Instr.fieldAt 44 t30 0)) w fun t31 w =>
    N (xv (Instr.loadAt 9 t31)) w fun t32 w =>
    M (e 1) fun t33 =>
    N (xv (xbin BinOp.eql 9 (Operand.tmp 32) (Operand.tmp 33) t32 t33)) w fun t34 w =>
    k (Env.p e 34 t34) w) := nr (by kernel_rfl)
theorem o20_9_eq (N : Sem Next → World → (Value → World → Prop) → Prop) (M : Value → (Value → Prop) → Prop) (G : Bool → ((Value → World → Prop) → Prop) → (Value → World → Prop) → World → Prop) (k : Env → World → Prop) (e : Env) (w : World) : opsW N M G 44 V20 o20_9 k o20_9.toList [] e e w =
    (M (e 0) fun t35 =>
    M (e 8) fun t36 =>
    N (xv (Instr.indexAt 22 t35 t36)) w fun t37 w =>
    N (xv (Instr.loadAt 40 t37)) w fun t38 w =>
    M (e 9) fun t39 =>
    N (xv (Instr.indexAt 40 t38 t39)) w fun t40 w =>
    N (xv (Instr.fieldAt 44 t40 1)) w fun t41 w =>
    N (xv (Instr.loadAt 29 t41)) w fun t42 w =>
    N (xu (Instr.storeAt 29 (e 7) t42)) w fun _ w =>
    k e w) := nr (by kernel_rfl)
theorem c20RRLRLLRLLRLLRLLRL_s (Q : Exit → Env → World → Prop) (e : Env) (w : World) (hw : Cur w) : W Try.prog 44 V20 c20RRLRLLRLLRLLRLLRL Q e w = (opsW (nx Try.prog) mv gdP 44 V20 o20_9 (fun e w => Q .normal e w) o20_9.toList [] e e w) := by
  rw [(by kernel_rfl : c20RRLRLLRLLRLLRLLRL = (.region 9 o20_9 false)), W_reg]
theorem c20RRLRLLRLLRLLRLLR_v : opV V20 (.tmp 34) = true := by kernel_rfl
theorem c20RRLRLLRLLRLLRLLR_s (Q : Exit → Env → World → Prop) (e : Env) (w : World) (hw : Cur w) : W Try.prog 44 V20 c20RRLRLLRLLRLLRLLR Q e w = (condP (ev e (.tmp 34)) (W Try.prog 44 V20 c20RRLRLLRLLRLLRLLRL Q e w) (Q .normal e w)) := by
  rw [(by kernel_rfl : c20RRLRLLRLLRLLRLLR = .cond (.tmp 34) c20RRLRLLRLLRLLRLLRL Code.skip), W_cond, c20RRLRLLRLLRLLRLLR_v, cond_true]; simp only [W_ret, W_skip, W_exit, W_label]
theorem c20RRLRLLRLLRLLRLL_s (Q : Exit → Env → World → Prop) (e : Env) (w : World) (hw : Cur w) : W Try.prog 44 V20 c20RRLRLLRLLRLLRLL Q e w = (opsW (nx Try.prog) mv gdP 44 V20 o20_8 (fun e w => W Try.prog 44 V20 c20RRLRLLRLLRLLRLLR Q e w) o20_8.toList [] e e w) := by
  rw [(by kernel_rfl : c20RRLRLLRLLRLLRLL = .seq (.region 8 o20_8 false) c20RRLRLLRLLRLLRLLR), W_seq_reg]
theorem c20RRLRLLRLLRLLRL_s (Q : Exit → Env → World → Prop) (e : Env) (w : World) (hw : Cur w) : W Try.prog 44 V20 c20RRLRLLRLLRLLRL Q e w = (W Try.prog 44 V20 c20RRLRLLRLLRLLRLL (blockQ 3 Q) e w) := by
  rw [(by kernel_rfl : c20RRLRLLRLLRLLRL = .block 3 c20RRLRLLRLLRLLRLL), W_block]
theorem c20RRLRLLRLLRLLR_s (Q : Exit → Env → World → Prop) (e : Env) (w : World) (hw : Cur w) : W Try.prog 44 V20 c20RRLRLLRLLRLLR Q e w = (W Try.prog 44 V20 c20RRLRLLRLLRLLRL (seqQ (fun e w => W Try.prog 44 V20 c20RRLRLLRLLRLLRR Q e w) Q) e w) := by
  rw [(by kernel_rfl : c20RRLRLLRLLRLLR = .seq c20RRLRLLRLLRLLRL c20RRLRLLRLLRLLRR), W_seq]
theorem o20_6_eq (N : Sem Next → World → (Value → World → Prop) → Prop) (M : Value → (Value → Prop) → Prop) (G : Bool → ((Value → World → Prop) → Prop) → (Value → World → Prop) → World → Prop) (k : Env → World → Prop) (e : Env) (w : World) : opsW N M G 44 V20 o20_6 k o20_6.toList [] e e w =
    (M (e 9) fun t16 =>
    M (e 0) fun t17 =>
    M (e 8) fun t18 =>
    N (xv (Instr.indexAt 22 t17 t18)) w fun t19 w =>
    N (xv (Instr.loadAt 40 t19)) w fun t20 w =>
    N (builtin Builtin.len #[40] 3 ([false]).toArray ([t20]).toArray) w fun t21 w =>
    N (xv (xbin BinOp.lss 3 (Operand.tmp 16) (Operand.tmp 21) t16 t21)) w fun t22 w =>
    k (Env.p e 22 t22) w) := nr (by kernel_rfl)
theorem c20RRLRLLRLLRLLLR_v : opV V20 (.tmp 22) = true := by kernel_rfl
theorem c20RRLRLLRLLRLLLR_s (Q : Exit → Env → World → Prop) (e : Env) (w : World) (hw : Cur w) : W Try.prog 44 V20 c20RRLRLLRLLRLLLR Q e w = (condP (ev e (.tmp 22)) (Q .normal e w) (Q (.exit 2) e w)) := by
  rw [(by kernel_rfl : c20RRLRLLRLLRLLLR = .cond (.tmp 22) Code.skip (Code.exit 2)), W_cond, c20RRLRLLRLLRLLLR_v, cond_true]; simp only [W_ret, W_skip, W_exit, W_label]
theorem c20RRLRLLRLLRLLL_s (Q : Exit → Env → World → Prop) (e : Env) (w : World) (hw : Cur w) : W Try.prog 44 V20 c20RRLRLLRLLRLLL Q e w = (opsW (nx Try.prog) mv gdP 44 V20 o20_6 (fun e w => W Try.prog 44 V20 c20RRLRLLRLLRLLLR Q e w) o20_6.toList [] e e w) := by
  rw [(by kernel_rfl : c20RRLRLLRLLRLLL = .seq (.region 6 o20_6 false) c20RRLRLLRLLRLLLR), W_seq_reg]
theorem c20RRLRLLRLLRLL_s (Q : Exit → Env → World → Prop) (e : Env) (w : World) (hw : Cur w) : W Try.prog 44 V20 c20RRLRLLRLLRLL Q e w = (W Try.prog 44 V20 c20RRLRLLRLLRLLL (seqQ (fun e w => W Try.prog 44 V20 c20RRLRLLRLLRLLR Q e w) Q) e w) := by
  rw [(by kernel_rfl : c20RRLRLLRLLRLL = .seq c20RRLRLLRLLRLLL c20RRLRLLRLLRLLR), W_seq]
theorem c20RRLRLLRLLRL_s (Q : Exit → Env → World → Prop) (e : Env) (w : World) (hw : Cur w) : W Try.prog 44 V20 c20RRLRLLRLLRL Q e w = (LoopP (fun e w k => W Try.prog 44 V20 c20RRLRLLRLLRLL (seqQ k Q) e w) e w) := by
  rw [(by kernel_rfl : c20RRLRLLRLLRL = .loop c20RRLRLLRLLRLL), W_loop]
theorem c20RRLRLLRLLR_s (Q : Exit → Env → World → Prop) (e : Env) (w : World) (hw : Cur w) : W Try.prog 44 V20 c20RRLRLLRLLR Q e w = (W Try.prog 44 V20 c20RRLRLLRLLRL (blockQ 2 Q) e w) := by
  rw [(by kernel_rfl : c20RRLRLLRLLR = .block 2 c20RRLRLLRLLRL), W_block]
theorem c20RRLRLLRLL_s (Q : Exit → Env → World → Prop) (e : Env) (w : World) (hw : Cur w) : W Try.prog 44 V20 c20RRLRLLRLL Q e w = (opsW (nx Try.prog) mv gdP 44 V20 o20_5 (fun e w => W Try.prog 44 V20 c20RRLRLLRLLR Q e w) o20_5.toList [] e e w) := by
  rw [(by kernel_rfl : c20RRLRLLRLL = .seq (.region 5 o20_5 false) c20RRLRLLRLLR), W_seq_reg]
theorem c20RRLRLLRL_s (Q : Exit → Env → World → Prop) (e : Env) (w : World) (hw : Cur w) : W Try.prog 44 V20 c20RRLRLLRL Q e w = (W Try.prog 44 V20 c20RRLRLLRLL (blockQ 1 Q) e w) := by
  rw [(by kernel_rfl : c20RRLRLLRL = .block 1 c20RRLRLLRLL), W_block]
theorem c20RRLRLLR_s (Q : Exit → Env → World → Prop) (e : Env) (w : World) (hw : Cur w) : W Try.prog 44 V20 c20RRLRLLR Q e w = (W Try.prog 44 V20 c20RRLRLLRL (seqQ (fun e w => W Try.prog 44 V20 c20RRLRLLRR Q e w) Q) e w) := by
  rw [(by kernel_rfl : c20RRLRLLR = .seq c20RRLRLLRL c20RRLRLLRR), W_seq]
theorem o20_3_eq (N : Sem Next → World → (Value → World → Prop) → Prop) (M : Value → (Value → Prop) → Prop) (G : Bool → ((Value → World → Prop) → Prop) → (Value → World → Prop) → World → Prop) (k : Env → World → Prop) (e : Env) (w : World) : opsW N M G 44 V20 o20_3 k o20_3.toList [] e e w =
    (M (e 8) fun t11 =>
    M (e 2) fun t12 =>
    N (xv (xbin BinOp.lss 3 (Operand.tmp 11) (Operand.tmp 12) t11 t12)) w fun t13 w =>
    k (Env.p e 13 t13) w) := nr (by kernel_rfl)
theorem c20RRLRLLLR_v : opV V20 (.tmp 13) = true := by kernel_rfl
theorem c20RRLRLLLR_s (Q : Exit → Env → World → Prop) (e : Env) (w : World) (hw : Cur w) : W Try.prog 44 V20 c20RRLRLLLR Q e w = (condP (ev e (.tmp 13)) (Q .normal e w) (Q (.exit 0) e w)) := by
  rw [(by kernel_rfl : c20RRLRLLLR = .cond (.tmp 13) Code.skip (Code.exit 0)), W_cond, c20RRLRLLLR_v, cond_true]; simp only [W_ret, W_skip, W_exit, W_label]
theorem c20RRLRLLL_s (Q : Exit → Env → World → Prop) (e : Env) (w : World) (hw : Cur w) : W Try.prog 44 V20 c20RRLRLLL Q e w = (opsW (nx Try.prog) mv gdP 44 V20 o20_3 (fun e w => W Try.prog 44 V20 c20RRLRLLLR Q e w) o20_3.toList [] e e w) := by
  rw [(by kernel_rfl : c20RRLRLLL = .seq (.region 3 o20_3 false) c20RRLRLLLR), W_seq_reg]
theorem c20RRLRLL_s (Q : Exit → Env → World → Prop) (e : Env) (w : World) (hw : Cur w) : W Try.prog 44 V20 c20RRLRLL Q e w = (W Try.prog 44 V20 c20RRLRLLL (seqQ (fun e w => W Try.prog 44 V20 c20RRLRLLR Q e w) Q) e w) := by
  rw [(by kernel_rfl : c20RRLRLL = .seq c20RRLRLLL c20RRLRLLR), W_seq]
theorem c20RRLRL_s (Q : Exit → Env → World → Prop) (e : Env) (w : World) (hw : Cur w) : W Try.prog 44 V20 c20RRLRL Q e w = (LoopP (fun e w k => W Try.prog 44 V20 c20RRLRLL (seqQ k Q) e w) e w) := by
  rw [(by kernel_rfl : c20RRLRL = .loop c20RRLRLL), W_loop]
theorem c20RRLR_s (Q : Exit → Env → World → Prop) (e : Env) (w : World) (hw : Cur w) : W Try.prog 44 V20 c20RRLR Q e w = (W Try.prog 44 V20 c20RRLRL (blockQ 0 Q) e w) := by
  rw [(by kernel_rfl : c20RRLR = .block 0 c20RRLRL), W_block]
theorem c20RRL_s (Q : Exit → Env → World → Prop) (e : Env) (w : World) (hw : Cur w) : W Try.prog 44 V20 c20RRL Q e w = (opsW (nx Try.prog) mv gdP 44 V20 o20_2 (fun e w => W Try.prog 44 V20 c20RRLR Q e w) o20_2.toList [] e e w) := by
  rw [(by kernel_rfl : c20RRL = .seq (.region 2 o20_2 false) c20RRLR), W_seq_reg]
theorem c20RR_s (Q : Exit → Env → World → Prop) (e : Env) (w : World) (hw : Cur w) : W Try.prog 44 V20 c20RR Q e w = (W Try.prog 44 V20 c20RRL (seqQ (fun e w => W Try.prog 44 V20 c20RRR Q e w) Q) e w) := by
  rw [(by kernel_rfl : c20RR = .seq c20RRL c20RRR), W_seq]
theorem c20R_s (Q : Exit → Env → World → Prop) (e : Env) (w : World) (hw : Cur w) : W Try.prog 44 V20 c20R Q e w = (opsW (nx Try.prog) mv gdP 44 V20 o20_1 (fun e w => W Try.prog 44 V20 c20RR Q e w) o20_1.toList [] e e w) := by
  rw [(by kernel_rfl : c20R = .seq (.region 1 o20_1 false) c20RR), W_seq_reg]
theorem c20_s (Q : Exit → Env → World → Prop) (e : Env) (w : World) (hw : Cur w) : W Try.prog 44 V20 c20 Q e w = (opsW (nx Try.prog) mv gdP 44 V20 o20_0 (fun e w => W Try.prog 44 V20 c20R Q e w) o20_0.toList [] e e w) := by
  rw [(by kernel_rfl : c20 = .seq (.region 0 o20_0 false) c20R), W_seq_reg]
theorem call20 {a0 a1 a2 : Value} {w : World} {R : Value → World → Prop} (h : W Try.prog 44 V20 c20 (retQ Try.prog [.cell 6 29] R) (argE [a0, a1, a2]) w) : CallsN Try.prog 20 [a0, a1, a2] w R :=
  callsN_of_W (c := c20) (rs := [.cell 6 29]) V20 Try.ntmps20 (by rw [Try.results20]) mixed Try.func20 (by kernel_rfl) (by kernel_rfl) (by kernel_rfl) (by kernel_rfl) (by simp) h
-- K20: ↓o20_0_eq, ↓o20_1_eq, ↓o20_10_eq, ↓c20RRR_s, ↓o20_2_eq, ↓o20_4_eq, ↓c20RRLRLLRR_s, ↓o20_5_eq, ↓o20_7_eq, ↓c20RRLRLLRLLRLLRR_s, ↓o20_8_eq, ↓o20_9_eq, ↓c20RRLRLLRLLRLLRLLRL_s, ↓c20RRLRLLRLLRLLRLLR_s, ↓c20RRLRLLRLLRLLRLL_s, ↓c20RRLRLLRLLRLLRL_s, ↓c20RRLRLLRLLRLLR_s, ↓o20_6_eq, ↓c20RRLRLLRLLRLLLR_s, ↓c20RRLRLLRLLRLLL_s, ↓c20RRLRLLRLLRLL_s, ↓c20RRLRLLRLLRL_s, ↓c20RRLRLLRLLR_s, ↓c20RRLRLLRLL_s, ↓c20RRLRLLRL_s, ↓c20RRLRLLR_s, ↓o20_3_eq, ↓c20RRLRLLLR_s, ↓c20RRLRLLL_s, ↓c20RRLRLL_s, ↓c20RRLRL_s, ↓c20RRLR_s, ↓c20RRL_s, ↓c20RR_s, ↓c20R_s, ↓c20_s
/-! ### (*vouch/store.Store) . Commit -/
def V21 : Nat → Bool := fun i => [0, 1, 4, 5, 6, 8, 9, 10, 12, 16, 22, 30, 31, 32, 33, 61].elem i
noncomputable def c21 : Code := (Try.f21.body.getD .skip)
noncomputable def o21_0 : Array Oper := rO (cL (Try.f21.body.getD .skip))
noncomputable def c21R : Code := (cR (Try.f21.body.getD .skip))
noncomputable def c21RR : Code := (cR (cR (Try.f21.body.getD .skip)))
noncomputable def c21RRR : Code := (cR (cR (cR (Try.f21.body.getD .skip))))
noncomputable def c21RRRR : Code := (cR (cR (cR (cR (Try.f21.body.getD .skip)))))
noncomputable def o21_8 : Array Oper := rO (cL (cR (cR (cR (cR (Try.f21.body.getD .skip))))))
noncomputable def c21RRRRR : Code := (cR (cR (cR (cR (cR (Try.f21.body.getD .skip))))))
noncomputable def c21RRRRRR : Code := (cR (cR (cR (cR (cR (cR (Try.f21.body.getD .skip)))))))
noncomputable def o21_18 : Array Oper := rO (cL (cR (cR (cR (cR (cR (cR (Try.f21.body.getD .skip))))))))
noncomputable def c21RRRRRL : Code := (cL (cR (cR (cR (cR (cR (Try.f21.body.getD .skip)))))))
noncomputable def o21_9 : Array Oper := rO (cL (cL (cR (cR (cR (cR (cR (Try.f21.body.getD .skip))))))))
noncomputable def c21RRRRRLR : Code := (cR (cL (cR (cR (cR (cR (cR (Try.f21.body.getD .skip))))))))
noncomputable def c21RRRRRLRL : Code := (cL (cR (cL (cR (cR (cR (cR (cR (Try.f21.body.getD .skip)))))))))
noncomputable def c21RRRRRLRLL : Code := (cL (cL (cR (cL (cR (cR (cR (cR (cR (Try.f21.body.getD .skip))))))))))
noncomputable def o21_10 : Array Oper := rO (cL (cL (cL (cR (cL (cR (cR (cR (cR (cR (Try.f21.body.getD .skip)))))))))))
noncomputable def c21RRRRRLRLLR : Code := (cR (cL (cL (cR (cL (cR (cR (cR (cR (cR (Try.f21.body.getD .skip)))))))))))
noncomputable def c21RRRRRLRLLRR : Code := (cR (cR (cL (cL (cR (cL (cR (cR (cR (cR (cR (Try.f21.body.getD .skip))))))))))))
noncomputable def c21RRRRRLRLLRRR : Code := (cR (cR (cR (cL (cL (cR (cL (cR (cR (cR (cR (cR (Try.f21.body.getD .skip)))))))))))))
noncomputable def o21_17 : Array Oper := rO (cR (cR (cR (cL (cL (cR (cL (cR (cR (cR (cR (cR (Try.f21.body.getD .skip)))))))))))))
noncomputable def c21RRRRRLRLLRRL : Code := (cL (cR (cR (cL (cL (cR (cL (cR (cR (cR (cR (cR (Try.f21.body.getD .skip)))))))))))))
noncomputable def c21RRRRRLRLLRRLL : Code := (cL (cL (cR (cR (cL (cL (cR (cL (cR (cR (cR (cR (cR (Try.f21.body.getD .skip))))))))))))))
noncomputable def o21_11 : Array Oper := rO (cL (cL (cL (cR (cR (cL (cL (cR (cL (cR (cR (cR (cR (cR (Try.f21.body.getD .skip)))))))))))))))
noncomputable def c21RRRRRLRLLRRLLR : Code := (cR (cL (cL (cR (cR (cL (cL (cR (cL (cR (cR (cR (cR (cR (Try.f21.body.getD .skip)))))))))))))))
noncomputable def o21_12 : Array Oper := rO (cL (cR (cL (cL (cR (cR (cL (cL (cR (cL (cR (cR (cR (cR (cR (Try.f21.body.getD .skip))))))))))))))))
noncomputable def c21RRRRRLRLLRRLLRR : Code := (cR (cR (cL (cL (cR (cR (cL (cL (cR (cL (cR (cR (cR (cR (cR (Try.f21.body.getD .skip))))))))))))))))
noncomputable def o21_13 : Array Oper := rO (cL (cR (cR (cL (cL (cR (cR (cL (cL (cR (cL (cR (cR (cR (cR (cR (Try.f21.body.getD .skip)))))))))))))))))
noncomputable def c21RRRRRLRLLRRLLRRR : Code := (cR (cR (cR (cL (cL (cR (cR (cL (cL (cR (cL (cR (cR (cR (cR (cR (Try.f21.body.getD .skip)))))))))))))))))
noncomputable def c21RRRRRLRLLRRLLRRRR : Code := (cR (cR (cR (cR (cL (cL (cR (cR (cL (cL (cR (cL (cR (cR (cR (cR (cR (Try.f21.body.getD .skip))))))))))))))))))
noncomputable def o21_16 : Array Oper := rO (cR (cR (cR (cR (cL (cL (cR (cR (cL (cL (cR (cL (cR (cR (cR (cR (cR (Try.f21.body.getD .skip))))))))))))))))))
noncomputable def c21RRRRRLRLLRRLLRRRL : Code := (cL (cR (cR (cR (cL (cL (cR (cR (cL (cL (cR (cL (cR (cR (cR (cR (cR (Try.f21.body.getD .skip))))))))))))))))))
noncomputable def o21_14 : Array Oper := rO (cL (cL (cR (cR (cR (cL (cL (cR (cR (cL (cL (cR (cL (cR (cR (cR (cR (cR (Try.f21.body.getD .skip)))))))))))))))))))
noncomputable def c21RRRRRLRLLRRLLRRRLR : Code := (cR (cL (cR (cR (cR (cL (cL (cR (cR (cL (cL (cR (cL (cR (cR (cR (cR (cR (Try.f21.body.getD .skip)))))))))))))))))))
noncomputable def c21RRRRRLRLLRRLLRRRLRL : Code := (cL (cR (cL (cR (cR (cR (cL (cL (cR (cR (cL (cL (cR (cL (cR (cR (cR (cR (cR (Try.f21.body.getD .skip))))))))))))))))))))
noncomputable def o21_15 : Array Oper := rO (cL (cR (cL (cR (cR (cR (cL (cL (cR (cR (cL (cL (cR (cL (cR (cR (cR (cR (cR (Try.f21.body.getD .skip))))))))))))))))))))
noncomputable def c21RRRRRLRLLRL : Code := (cL (cR (cL (cL (cR (cL (cR (cR (cR (cR (cR (Try.f21.body.getD .skip))))))))))))
noncomputable def c21RRRL : Code := (cL (cR (cR (cR (Try.f21.body.getD .skip)))))
noncomputable def o21_6 : Array Oper := rO (cL (cL (cR (cR (cR (Try.f21.body.getD .skip))))))
noncomputable def c21RRRLR : Code := (cR (cL (cR (cR (cR (Try.f21.body.getD .skip))))))
noncomputable def c21RRRLRL : Code := (cL (cR (cL (cR (cR (cR (Try.f21.body.getD .skip)))))))
noncomputable def o21_7 : Array Oper := rO (cL (cL (cR (cL (cR (cR (cR (Try.f21.body.getD .skip))))))))
noncomputable def c21RRL : Code := (cL (cR (cR (Try.f21.body.getD .skip))))
noncomputable def o21_3 : Array Oper := rO (cL (cL (cR (cR (Try.f21.body.getD .skip)))))
noncomputable def c21RRLR : Code := (cR (cL (cR (cR (Try.f21.body.getD .skip)))))
noncomputable def o21_4 : Array Oper := rO (cL (cR (cL (cR (cR (Try.f21.body.getD .skip))))))
noncomputable def c21RRLRR : Code := (cR (cR (cL (cR (cR (Try.f21.body.getD .skip))))))
noncomputable def c21RRLRRL : Code := (cL (cR (cR (cL (cR (cR (Try.f21.body.getD .skip)))))))
noncomputable def o21_5 : Array Oper := rO (cL (cL (cR (cR (cL (cR (cR (Try.f21.body.getD .skip))))))))
noncomputable def c21RL : Code := (cL (cR (Try.f21.body.getD .skip)))
noncomputable def o21_1 : Array Oper := rO (cL (cL (cR (Try.f21.body.getD .skip))))
noncomputable def c21RLR : Code := (cR (cL (cR (Try.f21.body.getD .skip))))
noncomputable def c21RLRL : Code := (cL (cR (cL (cR (Try.f21.body.getD .skip)))))
noncomputable def o21_2 : Array Oper := rO (cL (cL (cR (cL (cR (Try.f21.body.getD .skip))))))
theorem o21_0_eq (N : Sem Next → World → (Value → World → Prop) → Prop) (M : Value → (Value → Prop) → Prop) (G : Bool → ((Value → World → Prop) → Prop) → (Value → World → Prop) → World → Prop) (k : Env → World → Prop) (e : Env) (w : World) : opsW N M G 87 V21 o21_0 k o21_0.toList [] e e w =
    (M (Value.int IntKind.i64 0) fun t4 =>
    M (Value.int IntKind.i64 0) fun t5 =>
    k (Env.p (Env.p e 4 t4) 5 t5) w) := nr (by kernel_rfl)
theorem o21_8_eq (N : Sem Next → World → (Value → World → Prop) → Prop) (M : Value → (Value → Prop) → Prop) (G : Bool → ((Value → World → Prop) → Prop) → (Value → World → Prop) → World → Prop) (k : Env → World → Prop) (e : Env) (w : World) : opsW N M G 87 V21 o21_8 k o21_8.toList [] e e w =
    (M (e 0) fun t23 =>
    N (xnil t23) w fun t24 w =>
    N (xv (Instr.fieldAt 111 t24 2)) w fun t25 w =>
    N (xv (Instr.loadAt 2 t25)) w fun t26 w =>
    N (xv (xbin BinOp.add 2 (Operand.tmp 26) (Operand.const (Value.int IntKind.i64 1)) t26 (Value.int IntKind.i64 1))) w fun t27 w =>
    N (xnil t23) w fun t28 w =>
    N (xv (Instr.fieldAt 111 t28 2)) w fun t29 w =>
    N (xu (Instr.storeAt 2 t29 t27)) w fun _ w =>
    k e w) := nr (by kernel_rfl)
theorem o21_18_eq (N : Sem Next → World → (Value → World → Prop) → Prop) (M : Value → (Value → Prop) → Prop) (G : Bool → ((Value → World → Prop) → Prop) → (Value → World → Prop) → World → Prop) (k : Env → World → Prop) (e : Env) (w : World) : opsW N M G 87 V21 o21_18 k o21_18.toList [] e e w =
    (M (e 0) fun t83 =>
    N (xnil t83) w fun t84 w =>
    N (xv (Instr.fieldAt 111 t84 2)) w fun t85 w =>
    N (xv (Instr.loadAt 2 t85)) w fun t86 w =>
    M t86 fun t4 =>
    M (Value.int IntKind.i64 0) fun t5 =>
    k (Env.p (Env.p e 4 t4) 5 t5) w) := nr (by kernel_rfl)
theorem c21RRRRRR_s (Q : Exit → Env → World → Prop) (e : Env) (w : World) (hw : Cur w) : W Try.prog 87 V21 c21RRRRRR Q e w = (opsW (nx Try.prog) mv gdP 87 V21 o21_18 (fun e w => Q .ret e w) o21_18.toList [] e e w) := by
  rw [(by kernel_rfl : c21RRRRRR = .seq (.region 18 o21_18 false) Code.ret), W_seq_reg]; simp only [W_ret, W_skip, W_exit, W_label]
theorem o21_9_eq (N : Sem Next → World → (Value → World → Prop) → Prop) (M : Value → (Value → Prop) → Prop) (G : Bool → ((Value → World → Prop) → Prop) → (Value → World → Prop) → World → Prop) (k : Env → World → Prop) (e : Env) (w : World) : opsW N M G 87 V21 o21_9 k o21_9.toList [] e e w =
    (M (e 1) fun t30 =>
    N (builtin Builtin.len #[40] 3 ([false]).toArray ([t30]).toArray) w fun t31 w =>
    M (Value.int IntKind.i64 0) fun t32 =>
    k (Env.p (Env.p (Env.p e 30 t30) 31 t31) 32 t32) w) := nr (by kernel_rfl)
theorem o21_10_eq (N : Sem Next → World → (Value → World → Prop) → Prop) (M : Value → (Value → Prop) → Prop) (G : Bool → ((Value → World → Prop) → Prop) → (Value → World → Prop) → World → Prop) (k : Env → World → Prop) (e : Env) (w : World) : opsW N M G 87 V21 o21_10 k o21_10.toList [] e e w =
    (N (xv (xbin BinOp.lss 3 (Operand.tmp 32) (Operand.tmp 31) (e 32) (e 31))) w fun t33 w =>
    k (Env.p e 33 t33) w) := nr (by kernel_rfl)
theorem o21_17_eq (N : Sem Next → World → (Value → World → Prop) → Prop) (M : Value → (Value → Prop) → Prop) (G : Bool → ((Value → World → Prop) → Prop) → (Value → World → Prop) → World → Prop) (k : Env → World → Prop) (e : Env) (w : World) : opsW N M G 87 V21 o21_17 k o21_17.toList [] e e w =
    (N (xv (xbin BinOp.add 3 (Operand.tmp 32) (Operand.const (Value.int IntKind.i64 1)) (e 32) (Value.int IntKind.i64 1))) w fun t82 w =>
    M t82 fun t32 =>
    k (Env.p e 32 t32) w) := nr (by kernel_rfl)
theorem c21RRRRRLRLLRRR_s (Q : Exit → Env → World → Prop) (e : Env) (w : World) (hw : Cur w) : W Try.prog 87 V21 c21RRRRRLRLLRRR Q e w = (opsW (nx Try.prog) mv gdP 87 V21 o21_17 (fun e w => Q .normal e w) o21_17.toList [] e e w) := by
  rw [(by kernel_rfl : c21RRRRRLRLLRRR = (.region 17 o21_17 false)), W_reg]
theorem o21_11_eq (N : Sem Next → World → (Value → World → Prop) → Prop) (M : Value → (Value → Prop) → Prop) (G : Bool → ((Value → World → Prop) → Prop) → (Value → World → Prop) → World → Prop) (k : Env → World → Prop) (e : Env) (w : World) : opsW N M G 87 V21 o21_11 k o21_11.toList [] e e w =
    (N (xv (Instr.indexAt 40 (e 30) (e 32))) w fun t34 w =>
    N (xv (Instr.loadAt 44 t34)) w fun t35 w =>
    N (xv (Instr.alloc 44 true (.tuple #[]))) w fun t8 w =>
    N (xu (Instr.storeAt 44 t8 t35)) w fun _ w =>
    k (Env.p e 8 t8) w) := nr (by kernel_rfl)
theorem o21_12_eq (N : Sem Next → World → (Value → World → Prop) → Prop) (T : Sem Next → (Value → Prop) → Prop) (M : Value → (Value → Prop) → Prop) (G : Bool → ((Value → World → Prop) → Prop) → (Value → World → Prop) → World → Prop) (H : Bool → ((Value → Prop) → Prop) → (Value → Prop) → Prop) (S : World → Prop) (k : Env → World → Prop) (e : Env) (w : World) : drawGo N T M G H 87 V21 o21_12 S k o21_12.size true (Array.replicate o21_12.size false) [] e e w =
    (M (e 0) fun t36 =>
    T (xnil t36) fun t37 =>
    T (xv (Instr.fieldAt 111 t37 0)) fun t38 =>
    T (xv (Instr.loadAt 109 t38)) fun t39 =>
    T (xv (Instr.fieldAt 44 (e 8) 0)) fun t40 =>
    T (xv (Instr.loadAt 9 t40)) fun t41 =>
    T (xv (Instr.lookup 109 t39 t41 false)) fun t42 =>
    N (xv (Instr.alloc 114 true (.tuple #[]))) w fun t9 w =>
    S w ∧ (N (xu (Instr.storeAt 114 t9 t42)) w fun _ w =>
    k (Env.p e 9 t9) w)) := nr (by kernel_rfl)
theorem o21_13_eq (N : Sem Next → World → (Value → World → Prop) → Prop) (T : Sem Next → (Value → Prop) → Prop) (M : Value → (Value → Prop) → Prop) (G : Bool → ((Value → World → Prop) → Prop) → (Value → World → Prop) → World → Prop) (H : Bool → ((Value → Prop) → Prop) → (Value → Prop) → Prop) (S : World → Prop) (k : Env → World → Prop) (e : Env) (w : World) : drawGo N T M G H 87 V21 o21_13 S k o21_13.size true (Array.replicate o21_13.size false) [] e e w =
    (T (xv (Instr.fieldAt 114 (e 9) 0)) fun t43 =>
    T (xv (Instr.loadAt 46 t43)) fun t44 =>
    M (e 0) fun t46 =>
    T (xnil t46) fun t47 =>
    T (xv (Instr.fieldAt 111 t47 2)) fun t48 =>
    T (xv (Instr.loadAt 2 t48)) fun t49 =>
    T (xv (Instr.fieldAt 44 (e 8) 1)) fun t50 =>
    T (xv (Instr.loadAt 29 t50)) fun t51 =>
    T (xv (Instr.build 106 ([(0, t49), (1, t51)]).toArray)) fun t52 =>
    (N (xcall (Value.func (Fn.func 57) #[] #[]) [t44]) w fun t45 w =>
    S w ∧ (N (xv (Instr.buildSlice 46 1 ([(0, t52)]).toArray)) w fun t53 w =>
    S w ∧ (N (builtin Builtin.append #[46, 46] 46 ([false, false]).toArray ([t45, t53]).toArray) w fun t54 w =>
    S w ∧ (M t54 fun t10 =>
    k (Env.p e 10 t10) w)))) ∧ (N (xv (Instr.buildSlice 46 1 ([(0, t52)]).toArray)) w fun t53 w =>
    S w ∧ (N (xcall (Value.func (Fn.func 57) #[] #[]) [t44]) w fun t45 w =>
    S w ∧ (N (builtin Builtin.append #[46, 46] 46 ([false, false]).toArray ([t45, t53]).toArray) w fun t54 w =>
    S w ∧ (M t54 fun t10 =>
    k (Env.p e 10 t10) w))))) := nr (by kernel_rfl)
theorem o21_16_eq (N : Sem Next → World → (Value → World → Prop) → Prop) (T : Sem Next → (Value → Prop) → Prop) (M : Value → (Value → Prop) → Prop) (G : Bool → ((Value → World → Prop) → Prop) → (Value → World → Prop) → World → Prop) (H : Bool → ((Value → Prop) → Prop) → (Value → Prop) → Prop) (S : World → Prop) (k : Env → World → Prop) (e : Env) (w : World) : drawGo N T M G H 87 V21 o21_16 S k o21_16.size true (Array.replicate o21_16.size false) [] e e w =
    (M (e 0) fun t72 =>
    T (xnil t72) fun t73 =>
    T (xv (Instr.fieldAt 111 t73 0)) fun t74 =>
    T (xv (Instr.loadAt 109 t74)) fun t75 =>
    T (xv (Instr.fieldAt 44 (e 8) 0)) fun t76 =>
    T (xv (Instr.loadAt 9 t76)) fun t77 =>
    M (e 10) fun t78 =>
    T (xv (Instr.fieldAt 114 (e 9) 1)) fun t79 =>
    T (xv (Instr.loadAt 4 t79)) fun t80 =>
    T (xv (Instr.build 114 ([(0, t78), (1, t80)]).toArray)) fun t81 =>
    N (xu (Instr.mapUpdate 109 t75 t77 t81)) w fun _ w =>
    k e w) := nr (by kernel_rfl)
theorem c21RRRRRLRLLRRLLRRRR_s (Q : Exit → Env → World → Prop) (e : Env) (w : World) (hw : Cur w) : W Try.prog 87 V21 c21RRRRRLRLLRRLLRRRR Q e w = (∃ S : World → Prop, S w.drew ∧ drawGo (nx Try.prog) (takeP Try.prog S) mv gdP gdT 87 V21 o21_16 S (fun e w => Q .normal e w) o21_16.size true (Array.replicate o21_16.size false) [] e e w.drew) := by
  rw [(by kernel_rfl : c21RRRRRLRLLRRLLRRRR = (.region 16 o21_16 true)), W_regD']
theorem o21_14_eq (N : Sem Next → World → (Value → World → Prop) → Prop) (M : Value → (Value → Prop) → Prop) (G : Bool → ((Value → World → Prop) → Prop) → (Value → World → Prop) → World → Prop) (k : Env → World → Prop) (e : Env) (w : World) : opsW N M G 87 V21 o21_14 k o21_14.toList [] e e w =
    (M (e 10) fun t55 =>
    N (builtin Builtin.len #[46] 3 ([false]).toArray ([t55]).toArray) w fun t56 w =>
    M (e 0) fun t57 =>
    N (xnil t57) w fun t58 w =>
    N (xv (Instr.fieldAt 111 t58 1)) w fun t59 w =>
    N (xv (Instr.loadAt 3 t59)) w fun t60 w =>
    N (xv (xbin BinOp.gtr 3 (Operand.tmp 56) (Operand.tmp 60) t56 t60)) w fun t61 w =>
    k (Env.p e 61 t61) w) := nr (by kernel_rfl)
theorem o21_15_eq (N : Sem Next → World → (Value → World → Prop) → Prop) (M : Value → (Value → Prop) → Prop) (G : Bool → ((Value → World → Prop) → Prop) → (Value → World → Prop) → World → Prop) (k : Env → World → Prop) (e : Env) (w : World) : opsW N M G 87 V21 o21_15 k o21_15.toList [] e e w =
    (M (e 10) fun t62 =>
    M (e 10) fun t63 =>
    N (builtin Builtin.len #[46] 3 ([false]).toArray ([t63]).toArray) w fun t64 w =>
    M (e 0) fun t65 =>
    N (xnil t65) w fun t66 w =>
    N (xv (Instr.fieldAt 111 t66 1)) w fun t67 w =>
    N (xv (Instr.loadAt 3 t67)) w fun t68 w =>
    N (xv (xbin BinOp.sub 3 (Operand.tmp 64) (Operand.tmp 68) t64 t68)) w fun t69 w =>
    N (xv (Instr.sliceAt 46 t62 (some t69) none none)) w fun t70 w =>
    M t70 fun t10 =>
    N (xv (Instr.fieldAt 114 (e 9) 1)) w fun t71 w =>
    N (xu (Instr.storeAt 4 t71 (Value.bool true))) w fun _ w =>
    k (Env.p e 10 t10) w) := nr (by kernel_rfl)
theorem c21RRRRRLRLLRRLLRRRLRL_s (Q : Exit → Env → World → Prop) (e : Env) (w : World) (hw : Cur w) : W Try.prog 87 V21 c21RRRRRLRLLRRLLRRRLRL Q e w = (opsW (nx Try.prog) mv gdP 87 V21 o21_15 (fun e w => Q .normal e w) o21_15.toList [] e e w) := by
  rw [(by kernel_rfl : c21RRRRRLRLLRRLLRRRLRL = (.region 15 o21_15 false)), W_reg]
theorem c21RRRRRLRLLRRLLRRRLR_v : opV V21 (.tmp 61) = true := by kernel_rfl
theorem c21RRRRRLRLLRRLLRRRLR_s (Q : Exit → Env → World → Prop) (e : Env) (w : World) (hw : Cur w) : W Try.prog 87 V21 c21RRRRRLRLLRRLLRRRLR Q e w = (condP (ev e (.tmp 61)) (W Try.prog 87 V21 c21RRRRRLRLLRRLLRRRLRL Q e w) (Q .normal e w)) := by
  rw [(by kernel_rfl : c21RRRRRLRLLRRLLRRRLR = .cond (.tmp 61) c21RRRRRLRLLRRLLRRRLRL Code.skip), W_cond, c21RRRRRLRLLRRLLRRRLR_v, cond_true]; simp only [W_ret, W_skip, W_exit, W_label]
theorem c21RRRRRLRLLRRLLRRRL_s (Q : Exit → Env → World → Prop) (e : Env) (w : World) (hw : Cur w) : W Try.prog 87 V21 c21RRRRRLRLLRRLLRRRL Q e w = (opsW (nx Try.prog) mv gdP 87 V21 o21_14 (fun e w => W Try.prog 87 V21 c21RRRRRLRLLRRLLRRRLR Q e w) o21_14.toList [] e e w) := by
  rw [(by kernel_rfl : c21RRRRRLRLLRRLLRRRL = .seq (.region 14 o21_14 false) c21RRRRRLRLLRRLLRRRLR), W_seq_reg]
theorem c21RRRRRLRLLRRLLRRR_s (Q : Exit → Env → World → Prop) (e : Env) (w : World) (hw : Cur w) : W Try.prog 87 V21 c21RRRRRLRLLRRLLRRR Q e w = (W Try.prog 87 V21 c21RRRRRLRLLRRLLRRRL (seqQ (fun e w => W Try.prog 87 V21 c21RRRRRLRLLRRLLRRRR Q e w) Q) e w) := by
  rw [(by kernel_rfl : c21RRRRRLRLLRRLLRRR = .seq c21RRRRRLRLLRRLLRRRL c21RRRRRLRLLRRLLRRRR), W_seq]
theorem c21RRRRRLRLLRRLLRR_s (Q : Exit → Env → World → Prop) (e : Env) (w : World) (hw : Cur w) : W Try.prog 87 V21 c21RRRRRLRLLRRLLRR Q e w = (∃ S : World → Prop, S w.drew ∧ drawGo (nx Try.prog) (takeP Try.prog S) mv gdP gdT 87 V21 o21_13 S (fun e w => W Try.prog 87 V21 c21RRRRRLRLLRRLLRRR Q e w) o21_13.size true (Array.replicate o21_13.size false) [] e e w.drew) := by
  rw [(by kernel_rfl : c21RRRRRLRLLRRLLRR = .seq (.region 13 o21_13 true) c21RRRRRLRLLRRLLRRR), W_seq_regD]
theorem c21RRRRRLRLLRRLLR_s (Q : Exit → Env → World → Prop) (e : Env) (w : World) (hw : Cur w) : W Try.prog 87 V21 c21RRRRRLRLLRRLLR Q e w = (∃ S : World → Prop, S w.drew ∧ drawGo (nx Try.prog) (takeP Try.prog S) mv gdP gdT 87 V21 o21_12 S (fun e w => W Try.prog 87 V21 c21RRRRRLRLLRRLLRR Q e w) o21_12.size true (Array.replicate o21_12.size false) [] e e w.drew) := by
  rw [(by kernel_rfl : c21RRRRRLRLLRRLLR = .seq (.region 12 o21_12 true) c21RRRRRLRLLRRLLRR), W_seq_regD]
theorem c21RRRRRLRLLRRLL_s (Q : Exit → Env → World → Prop) (e : Env) (w : World) (hw : Cur w) : W Try.prog 87 V21 c21RRRRRLRLLRRLL Q e w = (opsW (nx Try.prog) mv gdP 87 V21 o21_11 (fun e w => W Try.prog 87 V21 c21RRRRRLRLLRRLLR Q e w) o21_11.toList [] e e w) := by
  rw [(by kernel_rfl : c21RRRRRLRLLRRLL = .seq (.region 11 o21_11 false) c21RRRRRLRLLRRLLR), W_seq_reg]
theorem c21RRRRRLRLLRRL_s (Q : Exit → Env → World → Prop) (e : Env) (w : World) (hw : Cur w) : W Try.prog 87 V21 c21RRRRRLRLLRRL Q e w = (W Try.prog 87 V21 c21RRRRRLRLLRRLL (blockQ 1 Q) e w) := by
  rw [(by kernel_rfl : c21RRRRRLRLLRRL = .block 1 c21RRRRRLRLLRRLL), W_block]
theorem c21RRRRRLRLLRR_s (Q : Exit → Env → World → Prop) (e : Env) (w : World) (hw : Cur w) : W Try.prog 87 V21 c21RRRRRLRLLRR Q e w = (W Try.prog 87 V21 c21RRRRRLRLLRRL (seqQ (fun e w => W Try.prog 87 V21 c21RRRRRLRLLRRR Q e w) Q) e w) := by
  rw [(by kernel_rfl : c21RRRRRLRLLRR = .seq c21RRRRRLRLLRRL c21RRRRRLRLLRRR), W_seq]
theorem c21RRRRRLRLLRL_v : opV V21 (.tmp 33) = true := by kernel_rfl
theorem c21RRRRRLRLLRL_s (Q : Exit → Env → World → Prop) (e : Env) (w : World) (hw : Cur w) : W Try.prog 87 V21 c21RRRRRLRLLRL Q e w = (condP (ev e (.tmp 33)) (Q .normal e w) (Q (.exit 0) e w)) := by
  rw [(by kernel_rfl : c21RRRRRLRLLRL = .cond (.tmp 33) Code.skip (Code.exit 0)), W_cond, c21RRRRRLRLLRL_v, cond_true]; simp only [W_ret, W_skip, W_exit, W_label]
theorem c21RRRRRLRLLR_s (Q : Exit → Env → World → Prop) (e : Env) (w : World) (hw : Cur w) : W Try.prog 87 V21 c21RRRRRLRLLR Q e w = (W Try.prog 87 V21 c21RRRRRLRLLRL (seqQ (fun e w => W Try.prog 87 V21 c21RRRRRLRLLRR Q e w) Q) e w) := by
  rw [(by kernel_rfl : c21RRRRRLRLLR = .seq c21RRRRRLRLLRL c21RRRRRLRLLRR), W_seq]
theorem c21RRRRRLRLL_s (Q : Exit → Env → World → Prop) (e : Env) (w : World) (hw : Cur w) : W Try.prog 87 V21 c21RRRRRLRLL Q e w = (opsW (nx Try.prog) mv gdP 87 V21 o21_10 (fun e w => W Try.prog 87 V21 c21RRRRRLRLLR Q e w) o21_10.toList [] e e w) := by
  rw [(by kernel_rfl : c21RRRRRLRLL = .seq (.region 10 o21_10 false) c21RRRRRLRLLR), W_seq_reg]
theorem c21RRRRRLRL_s (Q : Exit → Env → World → Prop) (e : Env) (w : World) (hw : Cur w) : W Try.prog 87 V21 c21RRRRRLRL Q e w = (LoopP (fun e w k => W Try.prog 87 V21 c21RRRRRLRLL (seqQ k Q) e w) e w) := by
  rw [(by kernel_rfl : c21RRRRRLRL = .loop c21RRRRRLRLL), W_loop]
theorem c21RRRRRLR_s (Q : Exit → Env → World → Prop) (e : Env) (w : World) (hw : Cur w) : W Try.prog 87 V21 c21RRRRRLR Q e w = (W Try.prog 87 V21 c21RRRRRLRL (blockQ 0 Q) e w) := by
  rw [(by kernel_rfl : c21RRRRRLR = .block 0 c21RRRRRLRL), W_block]
theorem c21RRRRRL_s (Q : Exit → Env → World → Prop) (e : Env) (w : World) (hw : Cur w) : W Try.prog 87 V21 c21RRRRRL Q e w = (opsW (nx Try.prog) mv gdP 87 V21 o21_9 (fun e w => W Try.prog 87 V21 c21RRRRRLR Q e w) o21_9.toList [] e e w) := by
  rw [(by kernel_rfl : c21RRRRRL = .seq (.region 9 o21_9 false) c21RRRRRLR), W_seq_reg]
theorem c21RRRRR_s (Q : Exit → Env → World → Prop) (e : Env) (w : World) (hw : Cur w) : W Try.prog 87 V21 c21RRRRR Q e w = (W Try.prog 87 V21 c21RRRRRL (seqQ (fun e w => W Try.prog 87 V21 c21RRRRRR Q e w) Q) e w) := by
  rw [(by kernel_rfl : c21RRRRR = .seq c21RRRRRL c21RRRRRR), W_seq]
theorem c21RRRR_s (Q : Exit → Env → World → Prop) (e : Env) (w : World) (hw : Cur w) : W Try.prog 87 V21 c21RRRR Q e w = (opsW (nx Try.prog) mv gdP 87 V21 o21_8 (fun e w => W Try.prog 87 V21 c21RRRRR Q e w) o21_8.toList [] e e w) := by
  rw [(by kernel_rfl : c21RRRR = .seq (.region 8 o21_8 false) c21RRRRR), W_seq_reg]
theorem o21_6_eq (N : Sem Next → World → (Value → World → Prop) → Prop) (M : Value → (Value → Prop) → Prop) (G : Bool → ((Value → World → Prop) → Prop) → (Value → World → Prop) → World → Prop) (k : Env → World → Prop) (e : Env) (w : World) : opsW N M G 87 V21 o21_6 k o21_6.toList [] e e w =
    (M (e 0) fun t18 =>
    N (xnil t18) w fun t19 w =>
    N (xv (Instr.fieldAt 111 t19 2)) w fun t20 w =>
    N (xv (Instr.loadAt 2 t20)) w fun t21 w =>
    N (xv (xbin BinOp.geq 2 (Operand.tmp 21) (Operand.const (Value.int IntKind.i64 1099511627776)) t21 (Value.int IntKind.i64 1099511627776))) w fun t22 w =>
    k (Env.p e 22 t22) w) := nr (by kernel_rfl)
theorem o21_7_eq (N : Sem Next → World → (Value → World → Prop) → Prop) (M : Value → (Value → Prop) → Prop) (G : Bool → ((Value → World → Prop) → Prop) → (Value → World → Prop) → World → Prop) (k : Env → World → Prop) (e : Env) (w : World) : opsW N M G 87 V21 o21_7 k o21_7.toList [] e e w =
    (M (Value.int IntKind.i64 0) fun t4 =>
    M (Value.int IntKind.i64 2) fun t5 =>
    k (Env.p (Env.p e 4 t4) 5 t5) w) := nr (by kernel_rfl)
theorem c21RRRLRL_s (Q : Exit → Env → World → Prop) (e : Env) (w : World) (hw : Cur w) : W Try.prog 87 V21 c21RRRLRL Q e w = (opsW (nx Try.prog) mv gdP 87 V21 o21_7 (fun e w => Q .ret e w) o21_7.toList [] e e w) := by
  rw [(by kernel_rfl : c21RRRLRL = .seq (.region 7 o21_7 false) Code.ret), W_seq_reg]; simp only [W_ret, W_skip, W_exit, W_label]
theorem c21RRRLR_v : opV V21 (.tmp 22) = true := by kernel_rfl
theorem c21RRRLR_s (Q : Exit → Env → World → Prop) (e : Env) (w : World) (hw : Cur w) : W Try.prog 87 V21 c21RRRLR Q e w = (condP (ev e (.tmp 22)) (W Try.prog 87 V21 c21RRRLRL Q e w) (Q .normal e w)) := by
  rw [(by kernel_rfl : c21RRRLR = .cond (.tmp 22) c21RRRLRL Code.skip), W_cond, c21RRRLR_v, cond_true]; simp only [W_ret, W_skip, W_exit, W_label]
theorem c21RRRL_s (Q : Exit → Env → World → Prop) (e : Env) (w : World) (hw : Cur w) : W Try.prog 87 V21 c21RRRL Q e w = (opsW (nx Try.prog) mv gdP 87 V21 o21_6 (fun e w => W Try.prog 87 V21 c21RRRLR Q e w) o21_6.toList [] e e w) := by
  rw [(by kernel_rfl : c21RRRL = .seq (.region 6 o21_6 false) c21RRRLR), W_seq_reg]
theorem c21RRR_s (Q : Exit → Env → World → Prop) (e : Env) (w : World) (hw : Cur w) : W Try.prog 87 V21 c21RRR Q e w = (W Try.prog 87 V21 c21RRRL (seqQ (fun e w => W Try.prog 87 V21 c21RRRR Q e w) Q) e w) := by
  rw [(by kernel_rfl : c21RRR = .seq c21RRRL c21RRRR), W_seq]
theorem o21_3_eq (N : Sem Next → World → (Value → World → Prop) → Prop) (M : Value → (Value → Prop) → Prop) (G : Bool → ((Value → World → Prop) → Prop) → (Value → World → Prop) → World → Prop) (k : Env → World → Prop) (e : Env) (w : World) : opsW N M G 87 V21 o21_3 k o21_3.toList [] e e w =
    (M (e 1) fun t13 =>
    N (xcall (Value.func (Fn.func 56) #[] #[]) [t13]) w fun t14 w =>
    M t14 fun t6 =>
    k (Env.p e 6 t6) w) := nr (by kernel_rfl)
theorem o21_4_eq (N : Sem Next → World → (Value → World → Prop) → Prop) (M : Value → (Value → Prop) → Prop) (G : Bool → ((Value → World → Prop) → Prop) → (Value → World → Prop) → World → Prop) (k : Env → World → Prop) (e : Env) (w : World) : opsW N M G 87 V21 o21_4 k o21_4.toList [] e e w =
    (M (e 6) fun t15 =>
    N (xv (xbin BinOp.neq 32 (Operand.tmp 15) (Operand.const (Value.int IntKind.i64 0)) t15 (Value.int IntKind.i64 0))) w fun t16 w =>
    k (Env.p e 16 t16) w) := nr (by kernel_rfl)
theorem o21_5_eq (N : Sem Next → World → (Value → World → Prop) → Prop) (M : Value → (Value → Prop) → Prop) (G : Bool → ((Value → World → Prop) → Prop) → (Value → World → Prop) → World → Prop) (k : Env → World → Prop) (e : Env) (w : World) : opsW N M G 87 V21 o21_5 k o21_5.toList [] e e w =
    (M (e 6) fun t17 =>
    M (Value.int IntKind.i64 0) fun t4 =>
    M t17 fun t5 =>
    k (Env.p (Env.p e 4 t4) 5 t5) w) := nr (by kernel_rfl)
theorem c21RRLRRL_s (Q : Exit → Env → World → Prop) (e : Env) (w : World) (hw : Cur w) : W Try.prog 87 V21 c21RRLRRL Q e w = (opsW (nx Try.prog) mv gdP 87 V21 o21_5 (fun e w => Q .ret e w) o21_5.toList [] e e w) := by
  rw [(by kernel_rfl : c21RRLRRL = .seq (.region 5 o21_5 false) Code.ret), W_seq_reg]; simp only [W_ret, W_skip, W_exit, W_label]
theorem c21RRLRR_v : opV V21 (.tmp 16) = true := by kernel_rfl
theorem c21RRLRR_s (Q : Exit → Env → World → Prop) (e : Env) (w : World) (hw : Cur w) : W Try.prog 87 V21 c21RRLRR Q e w = (condP (ev e (.tmp 16)) (W Try.prog 87 V21 c21RRLRRL Q e w) (Q .normal e w)) := by
  rw [(by kernel_rfl : c21RRLRR = .cond (.tmp 16) c21RRLRRL Code.skip), W_cond, c21RRLRR_v, cond_true]; simp only [W_ret, W_skip, W_exit, W_label]
theorem c21RRLR_s (Q : Exit → Env → World → Prop) (e : Env) (w : World) (hw : Cur w) : W Try.prog 87 V21 c21RRLR Q e w = (opsW (nx Try.prog) mv gdP 87 V21 o21_4 (fun e w => W Try.prog 87 V21 c21RRLRR Q e w) o21_4.toList [] e e w) := by
  rw [(by kernel_rfl : c21RRLR = .seq (.region 4 o21_4 false) c21RRLRR), W_seq_reg]
theorem c21RRL_s (Q : Exit → Env → World → Prop) (e : Env) (w : World) (hw : Cur w) : W Try.prog 87 V21 c21RRL Q e w = (opsW (nx Try.prog) mv gdP 87 V21 o21_3 (fun e w => W Try.prog 87 V21 c21RRLR Q e w) o21_3.toList [] e e w) := by
  rw [(by kernel_rfl : c21RRL = .seq (.region 3 o21_3 false) c21RRLR), W_seq_reg]
theorem c21RR_s (Q : Exit → Env → World → Prop) (e : Env) (w : World) (hw : Cur w) : W Try.prog 87 V21 c21RR Q e w = (W Try.prog 87 V21 c21RRL (seqQ (fun e w => W Try.prog 87 V21 c21RRR Q e w) Q) e w) := by
  rw [(by kernel_rfl : c21RR = .seq c21RRL c21RRR), W_seq]
theorem o21_1_eq (N : Sem Next → World → (Value → World → Prop) → Prop) (M : Value → (Value → Prop) → Prop) (G : Bool → ((Value → World → Prop) → Prop) → (Value → World → Prop) → World → Prop) (k : Env → World → Prop) (e : Env) (w : World) : opsW N M G 87 V21 o21_1 k o21_1.toList [] e e w =
    (M (e 0) fun t11 =>
    N (xv (xbin BinOp.eql 24 (Operand.tmp 11) (Operand.const (Value.pointer none)) t11 (Value.pointer none))) w fun t12 w =>
    k (Env.p e 12 t12) w) := nr (by kernel_rfl)
theorem o21_2_eq (N : Sem Next → World → (Value → World → Prop) → Prop) (M : Value → (Value → Prop) → Prop) (G : Bool → ((Value → World → Prop) → Prop) → (Value → World → Prop) → World → Prop) (k : Env → World → Prop) (e : Env) (w : World) : opsW N M G 87 V21 o21_2 k o21_2.toList [] e e w =
    (M (Value.int IntKind.i64 0) fun t4 =>
    M (Value.int IntKind.i64 3) fun t5 =>
    k (Env.p (Env.p e 4 t4) 5 t5) w) := nr (by kernel_rfl)
theorem c21RLRL_s (Q : Exit → Env → World → Prop) (e : Env) (w : World) (hw : Cur w) : W Try.prog 87 V21 c21RLRL Q e w = (opsW (nx Try.prog) mv gdP 87 V21 o21_2 (fun e w => Q .ret e w) o21_2.toList [] e e w) := by
  rw [(by kernel_rfl : c21RLRL = .seq (.region 2 o21_2 false) Code.ret), W_seq_reg]; simp only [W_ret, W_skip, W_exit, W_label]
theorem c21RLR_v : opV V21 (.tmp 12) = true := by kernel_rfl
theorem c21RLR_s (Q : Exit → Env → World → Prop) (e : Env) (w : World) (hw : Cur w) : W Try.prog 87 V21 c21RLR Q e w = (condP (ev e (.tmp 12)) (W Try.prog 87 V21 c21RLRL Q e w) (Q .normal e w)) := by
  rw [(by kernel_rfl : c21RLR = .cond (.tmp 12) c21RLRL Code.skip), W_cond, c21RLR_v, cond_true]; simp only [W_ret, W_skip, W_exit, W_label]
theorem c21RL_s (Q : Exit → Env → World → Prop) (e : Env) (w : World) (hw : Cur w) : W Try.prog 87 V21 c21RL Q e w = (opsW (nx Try.prog) mv gdP 87 V21 o21_1 (fun e w => W Try.prog 87 V21 c21RLR Q e w) o21_1.toList [] e e w) := by
  rw [(by kernel_rfl : c21RL = .seq (.region 1 o21_1 false) c21RLR), W_seq_reg]
theorem c21R_s (Q : Exit → Env → World → Prop) (e : Env) (w : World) (hw : Cur w) : W Try.prog 87 V21 c21R Q e w = (W Try.prog 87 V21 c21RL (seqQ (fun e w => W Try.prog 87 V21 c21RR Q e w) Q) e w) := by
  rw [(by kernel_rfl : c21R = .seq c21RL c21RR), W_seq]
theorem c21_s (Q : Exit → Env → World → Prop) (e : Env) (w : World) (hw : Cur w) : W Try.prog 87 V21 c21 Q e w = (opsW (nx Try.prog) mv gdP 87 V21 o21_0 (fun e w => W Try.prog 87 V21 c21R Q e w) o21_0.toList [] e e w) := by
  rw [(by kernel_rfl : c21 = .seq (.region 0 o21_0 false) c21R), W_seq_reg]
theorem call21 {a0 a1 : Value} {w : World} {R : Value → World → Prop} (h : W Try.prog 87 V21 c21 (retQ Try.prog [.tmp 4, .tmp 5] R) (argE [a0, a1]) w) : CallsN Try.prog 21 [a0, a1] w R :=
  callsN_of_W (c := c21) (rs := [.tmp 4, .tmp 5]) V21 Try.ntmps21 (by rw [Try.results21]) mixed Try.func21 (by kernel_rfl) (by kernel_rfl) (by kernel_rfl) (by kernel_rfl) (by simp) h
-- K21: ↓o21_0_eq, ↓o21_8_eq, ↓o21_18_eq, ↓c21RRRRRR_s, ↓o21_9_eq, ↓o21_10_eq, ↓o21_17_eq, ↓c21RRRRRLRLLRRR_s, ↓o21_11_eq, ↓o21_12_eq, ↓o21_13_eq, ↓o21_16_eq, ↓c21RRRRRLRLLRRLLRRRR_s, ↓o21_14_eq, ↓o21_15_eq, ↓c21RRRRRLRLLRRLLRRRLRL_s, ↓c21RRRRRLRLLRRLLRRRLR_s, ↓c21RRRRRLRLLRRLLRRRL_s, ↓c21RRRRRLRLLRRLLRRR_s, ↓c21RRRRRLRLLRRLLRR_s, ↓c21RRRRRLRLLRRLLR_s, ↓c21RRRRRLRLLRRLL_s, ↓c21RRRRRLRLLRRL_s, ↓c21RRRRRLRLLRR_s, ↓c21RRRRRLRLLRL_s, ↓c21RRRRRLRLLR_s, ↓c21RRRRRLRLL_s, ↓c21RRRRRLRL_s, ↓c21RRRRRLR_s, ↓c21RRRRRL_s, ↓c21RRRRR_s, ↓c21RRRR_s, ↓o21_6_eq, ↓o21_7_eq, ↓c21RRRLRL_s, ↓c21RRRLR_s, ↓c21RRRL_s, ↓c21RRR_s, ↓o21_3_eq, ↓o21_4_eq, ↓o21_5_eq, ↓c21RRLRRL_s, ↓c21RRLRR_s, ↓c21RRLR_s, ↓c21RRL_s, ↓c21RR_s, ↓o21_1_eq, ↓o21_2_eq, ↓c21RLRL_s, ↓c21RLR_s, ↓c21RL_s, ↓c21R_s, ↓c21_s
/-! ### (*vouch/store.Store) . Last -/
def V22 : Nat → Bool := fun i => [0, 2, 4].elem i
noncomputable def c22 : Code := (Try.f22.body.getD .skip)
noncomputable def o22_0 : Array Oper := rO (cL (Try.f22.body.getD .skip))
noncomputable def c22R : Code := (cR (Try.f22.body.getD .skip))
noncomputable def c22RR : Code := (cR (cR (Try.f22.body.getD .skip)))
noncomputable def o22_3 : Array Oper := rO (cL (cR (cR (Try.f22.body.getD .skip))))
noncomputable def c22RL : Code := (cL (cR (Try.f22.body.getD .skip)))
noncomputable def o22_1 : Array Oper := rO (cL (cL (cR (Try.f22.body.getD .skip))))
noncomputable def c22RLR : Code := (cR (cL (cR (Try.f22.body.getD .skip))))
noncomputable def c22RLRL : Code := (cL (cR (cL (cR (Try.f22.body.getD .skip)))))
noncomputable def o22_2 : Array Oper := rO (cL (cL (cR (cL (cR (Try.f22.body.getD .skip))))))
theorem o22_0_eq (N : Sem Next → World → (Value → World → Prop) → Prop) (M : Value → (Value → Prop) → Prop) (G : Bool → ((Value → World → Prop) → Prop) → (Value → World → Prop) → World → Prop) (k : Env → World → Prop) (e : Env) (w : World) : opsW N M G 9 V22 o22_0 k o22_0.toList [] e e w =
    (M (Value.int IntKind.i64 0) fun t2 =>
    k (Env.p e 2 t2) w) := nr (by kernel_rfl)
theorem o22_3_eq (N : Sem Next → World → (Value → World → Prop) → Prop) (M : Value → (Value → Prop) → Prop) (G : Bool → ((Value → World → Prop) → Prop) → (Value → World → Prop) → World → Prop) (k : Env → World → Prop) (e : Env) (w : World) : opsW N M G 9 V22 o22_3 k o22_3.toList [] e e w =
    (M (e 0) fun t5 =>
    N (xnil t5) w fun t6 w =>
    N (xv (Instr.fieldAt 111 t6 2)) w fun t7 w =>
    N (xv (Instr.loadAt 2 t7)) w fun t8 w =>
    M t8 fun t2 =>
    k (Env.p e 2 t2) w) := nr (by kernel_rfl)
theorem c22RR_s (Q : Exit → Env → World → Prop) (e : Env) (w : World) (hw : Cur w) : W Try.prog 9 V22 c22RR Q e w = (opsW (nx Try.prog) mv gdP 9 V22 o22_3 (fun e w => Q .ret e w) o22_3.toList [] e e w) := by
  rw [(by kernel_rfl : c22RR = .seq (.region 3 o22_3 false) Code.ret), W_seq_reg]; simp only [W_ret, W_skip, W_exit, W_label]
theorem o22_1_eq (N : Sem Next → World → (Value → World → Prop) → Prop) (M : Value → (Value → Prop) → Prop) (G : Bool → ((Value → World → Prop) → Prop) → (Value → World → Prop) → World → Prop) (k : Env → World → Prop) (e : Env) (w : World) : opsW N M G 9 V22 o22_1 k o22_1.toList [] e e w =
    (M (e 0) fun t3 =>
    N (xv (xbin BinOp.eql 24 (Operand.tmp 3) (Operand.const (Value.pointer none)) t3 (Value.pointer none))) w fun t4 w =>
    k (Env.p e 4 t4) w) := nr (by kernel_rfl)
theorem o22_2_eq (N : Sem Next → World → (Value → World → Prop) → Prop) (M : Value → (Value → Prop) → Prop) (G : Bool → ((Value → World → Prop) → Prop) → (Value → World → Prop) → World → Prop) (k : Env → World → Prop) (e : Env) (w : World) : opsW N M G 9 V22 o22_2 k o22_2.toList [] e e w =
    (M (Value.int IntKind.i64 0) fun t2 =>
    k (Env.p e 2 t2) w) := nr (by kernel_rfl)
theorem c22RLRL_s (Q : Exit → Env → World → Prop) (e : Env) (w : World) (hw : Cur w) : W Try.prog 9 V22 c22RLRL Q e w = (opsW (nx Try.prog) mv gdP 9 V22 o22_2 (fun e w => Q .ret e w) o22_2.toList [] e e w) := by
  rw [(by kernel_rfl : c22RLRL = .seq (.region 2 o22_2 false) Code.ret), W_seq_reg]; simp only [W_ret, W_skip, W_exit, W_label]
theorem c22RLR_v : opV V22 (.tmp 4) = true := by kernel_rfl
theorem c22RLR_s (Q : Exit → Env → World → Prop) (e : Env) (w : World) (hw : Cur w) : W Try.prog 9 V22 c22RLR Q e w = (condP (ev e (.tmp 4)) (W Try.prog 9 V22 c22RLRL Q e w) (Q .normal e w)) := by
  rw [(by kernel_rfl : c22RLR = .cond (.tmp 4) c22RLRL Code.skip), W_cond, c22RLR_v, cond_true]; simp only [W_ret, W_skip, W_exit, W_label]
theorem c22RL_s (Q : Exit → Env → World → Prop) (e : Env) (w : World) (hw : Cur w) : W Try.prog 9 V22 c22RL Q e w = (opsW (nx Try.prog) mv gdP 9 V22 o22_1 (fun e w => W Try.prog 9 V22 c22RLR Q e w) o22_1.toList [] e e w) := by
  rw [(by kernel_rfl : c22RL = .seq (.region 1 o22_1 false) c22RLR), W_seq_reg]
theorem c22R_s (Q : Exit → Env → World → Prop) (e : Env) (w : World) (hw : Cur w) : W Try.prog 9 V22 c22R Q e w = (W Try.prog 9 V22 c22RL (seqQ (fun e w => W Try.prog 9 V22 c22RR Q e w) Q) e w) := by
  rw [(by kernel_rfl : c22R = .seq c22RL c22RR), W_seq]
theorem c22_s (Q : Exit → Env → World → Prop) (e : Env) (w : World) (hw : Cur w) : W Try.prog 9 V22 c22 Q e w = (opsW (nx Try.prog) mv gdP 9 V22 o22_0 (fun e w => W Try.prog 9 V22 c22R Q e w) o22_0.toList [] e e w) := by
  rw [(by kernel_rfl : c22 = .seq (.region 0 o22_0 false) c22R), W_seq_reg]
theorem call22 {a0 : Value} {w : World} {R : Value → World → Prop} (h : W Try.prog 9 V22 c22 (retQ Try.prog [.tmp 2] R) (argE [a0]) w) : CallsN Try.prog 22 [a0] w R :=
  callsN_of_W (c := c22) (rs := [.tmp 2]) V22 Try.ntmps22 (by rw [Try.results22]) mixed Try.func22 (by kernel_rfl) (by kernel_rfl) (by kernel_rfl) (by kernel_rfl) (by simp) h
-- K22: ↓o22_0_eq, ↓o22_3_eq, ↓c22RR_s, ↓o22_1_eq, ↓o22_2_eq, ↓c22RLRL_s, ↓c22RLR_s, ↓c22RL_s, ↓c22R_s, ↓c22_s
/-! ### vouch/vouchlaw05.put -/
def V23 : Nat → Bool := fun i => [0, 1, 4].elem i
noncomputable def c23 : Code := (Try.f23.body.getD .skip)
noncomputable def o23_0 : Array Oper := rO (cL (Try.f23.body.getD .skip))
noncomputable def c23R : Code := (cR (Try.f23.body.getD .skip))
noncomputable def o23_1 : Array Oper := rO (cL (cR (Try.f23.body.getD .skip)))
theorem o23_0_eq (N : Sem Next → World → (Value → World → Prop) → Prop) (M : Value → (Value → Prop) → Prop) (G : Bool → ((Value → World → Prop) → Prop) → (Value → World → Prop) → World → Prop) (k : Env → World → Prop) (e : Env) (w : World) : opsW N M G 9 V23 o23_0 k o23_0.toList [] e e w =
    (N (xv (Instr.alloc 44 true (.tuple #[]))) w fun t4 w =>
    k (Env.p e 4 t4) w) := nr (by kernel_rfl)
theorem o23_1_eq (N : Sem Next → World → (Value → World → Prop) → Prop) (M : Value → (Value → Prop) → Prop) (G : Bool → ((Value → World → Prop) → Prop) → (Value → World → Prop) → World → Prop) (k : Env → World → Prop) (e : Env) (w : World) : opsW N M G 9 V23 o23_1 k o23_1.toList [] e e w =
    (M (e 0) fun t5 =>
    M (e 1) fun t6 =>
    N (xv (Instr.build 29 ([(0, (Value.bool true)), (1, t6)]).toArray)) w fun t7 w =>
    N (xv (Instr.build 44 ([(0, t5), (1, t7)]).toArray)) w fun t8 w =>
    N (xu (Instr.storeAt 44 (e 4) t8)) w fun _ w =>
    k e w) := nr (by kernel_rfl)
theorem c23R_s (Q : Exit → Env → World → Prop) (e : Env) (w : World) (hw : Cur w) : W Try.prog 9 V23 c23R Q e w = (opsW (nx Try.prog) mv gdP 9 V23 o23_1 (fun e w => Q .ret e w) o23_1.toList [] e e w) := by
  rw [(by kernel_rfl : c23R = .seq (.region 1 o23_1 false) Code.ret), W_seq_reg]; simp only [W_ret, W_skip, W_exit, W_label]
theorem c23_s (Q : Exit → Env → World → Prop) (e : Env) (w : World) (hw : Cur w) : W Try.prog 9 V23 c23 Q e w = (opsW (nx Try.prog) mv gdP 9 V23 o23_0 (fun e w => W Try.prog 9 V23 c23R Q e w) o23_0.toList [] e e w) := by
  rw [(by kernel_rfl : c23 = .seq (.region 0 o23_0 false) c23R), W_seq_reg]
theorem call23 {a0 a1 : Value} {w : World} {R : Value → World → Prop} (h : W Try.prog 9 V23 c23 (retQ Try.prog [.cell 4 44] R) (argE [a0, a1]) w) : CallsN Try.prog 23 [a0, a1] w R :=
  callsN_of_W (c := c23) (rs := [.cell 4 44]) V23 Try.ntmps23 (by rw [Try.results23]) mixed Try.func23 (by kernel_rfl) (by kernel_rfl) (by kernel_rfl) (by kernel_rfl) (by simp) h
-- K23: ↓o23_0_eq, ↓o23_1_eq, ↓c23R_s, ↓c23_s
/-! ### vouch/store.goodKey -/
def V53 : Nat → Bool := fun i => [0, 2].elem i
noncomputable def c53 : Code := (Try.f53.body.getD .skip)
noncomputable def o53_0 : Array Oper := rO (cL (Try.f53.body.getD .skip))
noncomputable def c53R : Code := (cR (Try.f53.body.getD .skip))
noncomputable def o53_1 : Array Oper := rO (cL (cR (Try.f53.body.getD .skip)))
theorem o53_0_eq (N : Sem Next → World → (Value → World → Prop) → Prop) (M : Value → (Value → Prop) → Prop) (G : Bool → ((Value → World → Prop) → Prop) → (Value → World → Prop) → World → Prop) (k : Env → World → Prop) (e : Env) (w : World) : opsW N M G 11 V53 o53_0 k o53_0.toList [] e e w =
    (M (Value.bool false) fun t2 =>
    k (Env.p e 2 t2) w) := nr (by kernel_rfl)
theorem o53_1_eq (N : Sem Next → World → (Value → World → Prop) → Prop) (M : Value → (Value → Prop) → Prop) (G : Bool → ((Value → World → Prop) → Prop) → (Value → World → Prop) → World → Prop) (k : Env → World → Prop) (e : Env) (w : World) : opsW N M G 11 V53 o53_1 k o53_1.toList [] e e w =
    (M (e 0) fun t3 =>
    N (builtin Builtin.len #[9] 3 ([false]).toArray ([t3]).toArray) w fun t4 w =>
    N (xv (xbin BinOp.geq 3 (Operand.tmp 4) (Operand.const (Value.int IntKind.i64 1)) t4 (Value.int IntKind.i64 1))) w fun t5 w =>
    M t5 fun t6 =>
    G (isB t6 true) (fun K => M (e 0) fun v => K v w) (fun t7 w =>
    G (isB t6 true) (fun K => N (builtin Builtin.len #[9] 3 ([false]).toArray ([t7]).toArray) w K) (fun t8 w =>
    G (isB t6 true) (fun K => N (xv (xbin BinOp.leq 3 (Operand.tmp 8) (Operand.const (Value.int IntKind.i64 32)) t8 (Value.int IntKind.i64 32))) w K) (fun t9 w =>
    N (xpick t6 t9 (Value.bool false)) w fun t10 w =>
    M t10 fun t2 =>
    k (Env.p e 2 t2) w) w) w) w) := nr (by kernel_rfl)
theorem c53R_s (Q : Exit → Env → World → Prop) (e : Env) (w : World) (hw : Cur w) : W Try.prog 11 V53 c53R Q e w = (opsW (nx Try.prog) mv gdP 11 V53 o53_1 (fun e w => Q .ret e w) o53_1.toList [] e e w) := by
  rw [(by kernel_rfl : c53R = .seq (.region 1 o53_1 false) Code.ret), W_seq_reg]; simp only [W_ret, W_skip, W_exit, W_label]
theorem c53_s (Q : Exit → Env → World → Prop) (e : Env) (w : World) (hw : Cur w) : W Try.prog 11 V53 c53 Q e w = (opsW (nx Try.prog) mv gdP 11 V53 o53_0 (fun e w => W Try.prog 11 V53 c53R Q e w) o53_0.toList [] e e w) := by
  rw [(by kernel_rfl : c53 = .seq (.region 0 o53_0 false) c53R), W_seq_reg]
theorem call53 {a0 : Value} {w : World} {R : Value → World → Prop} (h : W Try.prog 11 V53 c53 (retQ Try.prog [.tmp 2] R) (argE [a0]) w) : CallsN Try.prog 53 [a0] w R :=
  callsN_of_W (c := c53) (rs := [.tmp 2]) V53 Try.ntmps53 (by rw [Try.results53]) mixed Try.func53 (by kernel_rfl) (by kernel_rfl) (by kernel_rfl) (by kernel_rfl) (by simp) h
-- K53: ↓o53_0_eq, ↓o53_1_eq, ↓c53R_s, ↓c53_s
/-! ### sort.Search -/
def V54 : Nat → Bool := fun i => [0, 1, 4, 5, 6, 7, 11, 21].elem i
noncomputable def c54 : Code := (Try.f54.body.getD .skip)
noncomputable def o54_0 : Array Oper := rO (cL (Try.f54.body.getD .skip))
noncomputable def c54R : Code := (cR (Try.f54.body.getD .skip))
noncomputable def o54_1 : Array Oper := rO (cL (cR (Try.f54.body.getD .skip)))
noncomputable def c54RR : Code := (cR (cR (Try.f54.body.getD .skip)))
noncomputable def c54RRR : Code := (cR (cR (cR (Try.f54.body.getD .skip))))
noncomputable def o54_7 : Array Oper := rO (cL (cR (cR (cR (Try.f54.body.getD .skip)))))
noncomputable def c54RRL : Code := (cL (cR (cR (Try.f54.body.getD .skip))))
noncomputable def c54RRLL : Code := (cL (cL (cR (cR (Try.f54.body.getD .skip)))))
noncomputable def c54RRLLL : Code := (cL (cL (cL (cR (cR (Try.f54.body.getD .skip))))))
noncomputable def c54RRLLLR : Code := (cR (cL (cL (cL (cR (cR (Try.f54.body.getD .skip)))))))
noncomputable def c54RRLLLRL : Code := (cL (cR (cL (cL (cL (cR (cR (Try.f54.body.getD .skip))))))))
noncomputable def o54_3 : Array Oper := rO (cL (cL (cR (cL (cL (cL (cR (cR (Try.f54.body.getD .skip)))))))))
noncomputable def c54RRLLLRLR : Code := (cR (cL (cR (cL (cL (cL (cR (cR (Try.f54.body.getD .skip)))))))))
noncomputable def o54_4 : Array Oper := rO (cL (cR (cL (cR (cL (cL (cL (cR (cR (Try.f54.body.getD .skip))))))))))
noncomputable def c54RRLLLRLRR : Code := (cR (cR (cL (cR (cL (cL (cL (cR (cR (Try.f54.body.getD .skip))))))))))
noncomputable def c54RRLLLRLRRL : Code := (cL (cR (cR (cL (cR (cL (cL (cL (cR (cR (Try.f54.body.getD .skip)))))))))))
noncomputable def o54_5 : Array Oper := rO (cL (cR (cR (cL (cR (cL (cL (cL (cR (cR (Try.f54.body.getD .skip)))))))))))
noncomputable def c54RRLLLRLRRR : Code := (cR (cR (cR (cL (cR (cL (cL (cL (cR (cR (Try.f54.body.getD .skip)))))))))))
noncomputable def o54_6 : Array Oper := rO (cR (cR (cR (cL (cR (cL (cL (cL (cR (cR (Try.f54.body.getD .skip)))))))))))
noncomputable def c54RRLLLL : Code := (cL (cL (cL (cL (cR (cR (Try.f54.body.getD .skip)))))))
noncomputable def o54_2 : Array Oper := rO (cL (cL (cL (cL (cL (cR (cR (Try.f54.body.getD .skip))))))))
noncomputable def c54RRLLLLR : Code := (cR (cL (cL (cL (cL (cR (cR (Try.f54.body.getD .skip))))))))
theorem o54_0_eq (N : Sem Next → World → (Value → World → Prop) → Prop) (M : Value → (Value → Prop) → Prop) (G : Bool → ((Value → World → Prop) → Prop) → (Value → World → Prop) → World → Prop) (k : Env → World → Prop) (e : Env) (w : World) : opsW N M G 26 V54 o54_0 k o54_0.toList [] e e w =
    (M (Value.int IntKind.i64 0) fun t4 =>
    k (Env.p e 4 t4) w) := nr (by kernel_rfl)
theorem o54_1_eq (N : Sem Next → World → (Value → World → Prop) → Prop) (M : Value → (Value → Prop) → Prop) (G : Bool → ((Value → World → Prop) → Prop) → (Value → World → Prop) → World → Prop) (k : Env → World → Prop) (e : Env) (w : World) : opsW N M G 26 V54 o54_1 k o54_1.toList [] e e w =
    (M (e 0) fun t8 =>
    M (Value.int IntKind.i64 0) fun t5 =>
    M t8 fun t6 =>
    k (Env.p (Env.p e 5 t5) 6 t6) w) := nr (by kernel_rfl)
theorem o54_7_eq (N : Sem Next → World → (Value → World → Prop) → Prop) (M : Value → (Value → Prop) → Prop) (G : Bool → ((Value → World → Prop) → Prop) → (Value → World → Prop) → World → Prop) (k : Env → World → Prop) (e : Env) (w : World) : opsW N M G 26 V54 o54_7 k o54_7.toList [] e e w =
    (M (e 5) fun t25 =>
    M t25 fun t4 =>
    k (Env.p e 4 t4) w) := nr (by kernel_rfl)
theorem c54RRR_s (Q : Exit → Env → World → Prop) (e : Env) (w : World) (hw : Cur w) : W Try.prog 26 V54 c54RRR Q e w = (opsW (nx Try.prog) mv gdP 26 V54 o54_7 (fun e w => Q .ret e w) o54_7.toList [] e e w) := by
  rw [(by kernel_rfl : c54RRR = .seq (.region 7 o54_7 false) Code.ret), W_seq_reg]; simp only [W_ret, W_skip, W_exit, W_label]
theorem o54_3_eq (N : Sem Next → World → (Value → World → Prop) → Prop) (M : Value → (Value → Prop) → Prop) (G : Bool → ((Value → World → Prop) → Prop) → (Value → World → Prop) → World → Prop) (k : Env → World → Prop) (e : Env) (w : World) : opsW N M G 26 V54 o54_3 k o54_3.toList [] e e w =
    (M (e 5) fun t12 =>
    M (e 6) fun t13 =>
    N (xv (xbin BinOp.add 3 (Operand.tmp 12) (Operand.tmp 13) t12 t13)) w fun t14 w =>
    N (xv (convert 3 158 t14)) w fun t15 w =>
    N (xv (xbin BinOp.shr 158 (Operand.tmp 15) (Operand.const (Value.int IntKind.u64 1)) t15 (Value.int IntKind.u64 1))) w fun t16 w =>
    N (xv (convert 158 3 t16)) w fun t17 w =>
    M t17 fun t7 =>
    k (Env.p e 7 t7) w) := nr (by kernel_rfl)
theorem o54_4_eq (N : Sem Next → World → (Value → World → Prop) → Prop) (M : Value → (Value → Prop) → Prop) (G : Bool → ((Value → World → Prop) → Prop) → (Value → World → Prop) → World → Prop) (k : Env → World → Prop) (e : Env) (w : World) : opsW N M G 26 V54 o54_4 k o54_4.toList [] e e w =
    (M (e 1) fun t18 =>
    M (e 7) fun t19 =>
    N (xcall t18 [t19]) w fun t20 w =>
    N (xv (Op.unary UnOp.not t20)) w fun t21 w =>
    k (Env.p e 21 t21) w) := nr (by kernel_rfl)
theorem o54_5_eq (N : Sem Next → World → (Value → World → Prop) → Prop) (M : Value → (Value → Prop) → Prop) (G : Bool → ((Value → World → Prop) → Prop) → (Value → World → Prop) → World → Prop) (k : Env → World → Prop) (e : Env) (w : World) : opsW N M G 26 V54 o54_5 k o54_5.toList [] e e w =
    (M (e 7) fun t22 =>
    N (xv (xbin BinOp.add 3 (Operand.tmp 22) (Operand.const (Value.int IntKind.i64 1)) t22 (Value.int IntKind.i64 1))) w fun t23 w =>
    M t23 fun t5 =>
    k (Env.p e 5 t5) w) := nr (by kernel_rfl)
theorem c54RRLLLRLRRL_s (Q : Exit → Env → World → Prop) (e : Env) (w : World) (hw : Cur w) : W Try.prog 26 V54 c54RRLLLRLRRL Q e w = (opsW (nx Try.prog) mv gdP 26 V54 o54_5 (fun e w => Q .normal e w) o54_5.toList [] e e w) := by
  rw [(by kernel_rfl : c54RRLLLRLRRL = (.region 5 o54_5 false)), W_reg]
theorem o54_6_eq (N : Sem Next → World → (Value → World → Prop) → Prop) (M : Value → (Value → Prop) → Prop) (G : Bool → ((Value → World → Prop) → Prop) → (Value → World → Prop) → World → Prop) (k : Env → World → Prop) (e : Env) (w : World) : opsW N M G 26 V54 o54_6 k o54_6.toList [] e e w =
    (M (e 7) fun t24 =>
    M t24 fun t6 =>
    k (Env.p e 6 t6) w) := nr (by kernel_rfl)
theorem c54RRLLLRLRRR_s (Q : Exit → Env → World → Prop) (e : Env) (w : World) (hw : Cur w) : W Try.prog 26 V54 c54RRLLLRLRRR Q e w = (opsW (nx Try.prog) mv gdP 26 V54 o54_6 (fun e w => Q .normal e w) o54_6.toList [] e e w) := by
  rw [(by kernel_rfl : c54RRLLLRLRRR = (.region 6 o54_6 false)), W_reg]
theorem c54RRLLLRLRR_v : opV V54 (.tmp 21) = true := by kernel_rfl
theorem c54RRLLLRLRR_s (Q : Exit → Env → World → Prop) (e : Env) (w : World) (hw : Cur w) : W Try.prog 26 V54 c54RRLLLRLRR Q e w = (condP (ev e (.tmp 21)) (W Try.prog 26 V54 c54RRLLLRLRRL Q e w) (W Try.prog 26 V54 c54RRLLLRLRRR Q e w)) := by
  rw [(by kernel_rfl : c54RRLLLRLRR = .cond (.tmp 21) c54RRLLLRLRRL c54RRLLLRLRRR), W_cond, c54RRLLLRLRR_v, cond_true]
theorem c54RRLLLRLR_s (Q : Exit → Env → World → Prop) (e : Env) (w : World) (hw : Cur w) : W Try.prog 26 V54 c54RRLLLRLR Q e w = (opsW (nx Try.prog) mv gdP 26 V54 o54_4 (fun e w => W Try.prog 26 V54 c54RRLLLRLRR Q e w) o54_4.toList [] e e w) := by
  rw [(by kernel_rfl : c54RRLLLRLR = .seq (.region 4 o54_4 false) c54RRLLLRLRR), W_seq_reg]
theorem c54RRLLLRL_s (Q : Exit → Env → World → Prop) (e : Env) (w : World) (hw : Cur w) : W Try.prog 26 V54 c54RRLLLRL Q e w = (opsW (nx Try.prog) mv gdP 26 V54 o54_3 (fun e w => W Try.prog 26 V54 c54RRLLLRLR Q e w) o54_3.toList [] e e w) := by
  rw [(by kernel_rfl : c54RRLLLRL = .seq (.region 3 o54_3 false) c54RRLLLRLR), W_seq_reg]
theorem c54RRLLLR_s (Q : Exit → Env → World → Prop) (e : Env) (w : World) (hw : Cur w) : W Try.prog 26 V54 c54RRLLLR Q e w = (W Try.prog 26 V54 c54RRLLLRL (blockQ 1 Q) e w) := by
  rw [(by kernel_rfl : c54RRLLLR = .block 1 c54RRLLLRL), W_block]
theorem o54_2_eq (N : Sem Next → World → (Value → World → Prop) → Prop) (M : Value → (Value → Prop) → Prop) (G : Bool → ((Value → World → Prop) → Prop) → (Value → World → Prop) → World → Prop) (k : Env → World → Prop) (e : Env) (w : World) : opsW N M G 26 V54 o54_2 k o54_2.toList [] e e w =
    (M (e 5) fun t9 =>
    M (e 6) fun t10 =>
    N (xv (xbin BinOp.lss 3 (Operand.tmp 9) (Operand.tmp 10) t9 t10)) w fun t11 w =>
    k (Env.p e 11 t11) w) := nr (by kernel_rfl)
theorem c54RRLLLLR_v : opV V54 (.tmp 11) = true := by kernel_rfl
theorem c54RRLLLLR_s (Q : Exit → Env → World → Prop) (e : Env) (w : World) (hw : Cur w) : W Try.prog 26 V54 c54RRLLLLR Q e w = (condP (ev e (.tmp 11)) (Q .normal e w) (Q (.exit 0) e w)) := by
  rw [(by kernel_rfl : c54RRLLLLR = .cond (.tmp 11) Code.skip (Code.exit 0)), W_cond, c54RRLLLLR_v, cond_true]; simp only [W_ret, W_skip, W_exit, W_label]
theorem c54RRLLLL_s (Q : Exit → Env → World → Prop) (e : Env) (w : World) (hw : Cur w) : W Try.prog 26 V54 c54RRLLLL Q e w = (opsW (nx Try.prog) mv gdP 26 V54 o54_2 (fun e w => W Try.prog 26 V54 c54RRLLLLR Q e w) o54_2.toList [] e e w) := by
  rw [(by kernel_rfl : c54RRLLLL = .seq (.region 2 o54_2 false) c54RRLLLLR), W_seq_reg]
theorem c54RRLLL_s (Q : Exit → Env → World → Prop) (e : Env) (w : World) (hw : Cur w) : W Try.prog 26 V54 c54RRLLL Q e w = (W Try.prog 26 V54 c54RRLLLL (seqQ (fun e w => W Try.prog 26 V54 c54RRLLLR Q e w) Q) e w) := by
  rw [(by kernel_rfl : c54RRLLL = .seq c54RRLLLL c54RRLLLR), W_seq]
theorem c54RRLL_s (Q : Exit → Env → World → Prop) (e : Env) (w : World) (hw : Cur w) : W Try.prog 26 V54 c54RRLL Q e w = (LoopP (fun e w k => W Try.prog 26 V54 c54RRLLL (seqQ k Q) e w) e w) := by
  rw [(by kernel_rfl : c54RRLL = .loop c54RRLLL), W_loop]
theorem c54RRL_s (Q : Exit → Env → World → Prop) (e : Env) (w : World) (hw : Cur w) : W Try.prog 26 V54 c54RRL Q e w = (W Try.prog 26 V54 c54RRLL (blockQ 0 Q) e w) := by
  rw [(by kernel_rfl : c54RRL = .block 0 c54RRLL), W_block]
theorem c54RR_s (Q : Exit → Env → World → Prop) (e : Env) (w : World) (hw : Cur w) : W Try.prog 26 V54 c54RR Q e w = (W Try.prog 26 V54 c54RRL (seqQ (fun e w => W Try.prog 26 V54 c54RRR Q e w) Q) e w) := by
  rw [(by kernel_rfl : c54RR = .seq c54RRL c54RRR), W_seq]
theorem c54R_s (Q : Exit → Env → World → Prop) (e : Env) (w : World) (hw : Cur w) : W Try.prog 26 V54 c54R Q e w = (opsW (nx Try.prog) mv gdP 26 V54 o54_1 (fun e w => W Try.prog 26 V54 c54RR Q e w) o54_1.toList [] e e w) := by
  rw [(by kernel_rfl : c54R = .seq (.region 1 o54_1 false) c54RR), W_seq_reg]
theorem c54_s (Q : Exit → Env → World → Prop) (e : Env) (w : World) (hw : Cur w) : W Try.prog 26 V54 c54 Q e w = (opsW (nx Try.prog) mv gdP 26 V54 o54_0 (fun e w => W Try.prog 26 V54 c54R Q e w) o54_0.toList [] e e w) := by
  rw [(by kernel_rfl : c54 = .seq (.region 0 o54_0 false) c54R), W_seq_reg]
theorem call54 {a0 a1 : Value} {w : World} {R : Value → World → Prop} (h : W Try.prog 26 V54 c54 (retQ Try.prog [.tmp 4] R) (argE [a0, a1]) w) : CallsN Try.prog 54 [a0, a1] w R :=
  callsN_of_W (c := c54) (rs := [.tmp 4]) V54 Try.ntmps54 (by rw [Try.results54]) mixed Try.func54 (by kernel_rfl) (by kernel_rfl) (by kernel_rfl) (by kernel_rfl) (by simp) h
-- K54: ↓o54_0_eq, ↓o54_1_eq, ↓o54_7_eq, ↓c54RRR_s, ↓o54_3_eq, ↓o54_4_eq, ↓o54_5_eq, ↓c54RRLLLRLRRL_s, ↓o54_6_eq, ↓c54RRLLLRLRRR_s, ↓c54RRLLLRLRR_s, ↓c54RRLLLRLR_s, ↓c54RRLLLRL_s, ↓c54RRLLLR_s, ↓o54_2_eq, ↓c54RRLLLLR_s, ↓c54RRLLLL_s, ↓c54RRLLL_s, ↓c54RRLL_s, ↓c54RRL_s, ↓c54RR_s, ↓c54R_s, ↓c54_s
/-! ### (*vouch/store.Store) . Read$1 -/
def V55 : Nat → Bool := fun i => [0, 1, 2, 4].elem i
noncomputable def c55 : Code := (Try.f55.body.getD .skip)
noncomputable def o55_0 : Array Oper := rO (cL (Try.f55.body.getD .skip))
noncomputable def c55R : Code := (cR (Try.f55.body.getD .skip))
noncomputable def o55_1 : Array Oper := rO (cL (cR (Try.f55.body.getD .skip)))
theorem o55_0_eq (N : Sem Next → World → (Value → World → Prop) → Prop) (M : Value → (Value → Prop) → Prop) (G : Bool → ((Value → World → Prop) → Prop) → (Value → World → Prop) → World → Prop) (k : Env → World → Prop) (e : Env) (w : World) : opsW N M G 12 V55 o55_0 k o55_0.toList [] e e w =
    (M (Value.bool false) fun t4 =>
    k (Env.p e 4 t4) w) := nr (by kernel_rfl)
theorem o55_1_eq (N : Sem Next → World → (Value → World → Prop) → Prop) (T : Sem Next → (Value → Prop) → Prop) (M : Value → (Value → Prop) → Prop) (G : Bool → ((Value → World → Prop) → Prop) → (Value → World → Prop) → World → Prop) (H : Bool → ((Value → Prop) → Prop) → (Value → Prop) → Prop) (S : World → Prop) (k : Env → World → Prop) (e : Env) (w : World) : drawGo N T M G H 12 V55 o55_1 S k o55_1.size true (Array.replicate o55_1.size false) [] e e w =
    (T (xv (Instr.loadAt 46 (e 1))) fun t5 =>
    M (e 0) fun t6 =>
    T (xv (Instr.indexAt 46 t5 t6)) fun t7 =>
    T (xv (Instr.fieldAt 106 t7 0)) fun t8 =>
    T (xv (Instr.loadAt 2 t8)) fun t9 =>
    T (xv (Instr.loadAt 2 (e 2))) fun t10 =>
    T (xv (xbin BinOp.gtr 2 (Operand.tmp 9) (Operand.tmp 10) t9 t10)) fun t11 =>
    M t11 fun t4 =>
    k (Env.p e 4 t4) w) := nr (by kernel_rfl)
theorem c55R_s (Q : Exit → Env → World → Prop) (e : Env) (w : World) (hw : Cur w) : W Try.prog 12 V55 c55R Q e w = (∃ S : World → Prop, S w.drew ∧ drawGo (nx Try.prog) (takeP Try.prog S) mv gdP gdT 12 V55 o55_1 S (fun e w => Q .ret e w) o55_1.size true (Array.replicate o55_1.size false) [] e e w.drew) := by
  rw [(by kernel_rfl : c55R = .seq (.region 1 o55_1 true) Code.ret), W_seq_regD]; simp only [W_ret, W_skip, W_exit, W_label]
theorem c55_s (Q : Exit → Env → World → Prop) (e : Env) (w : World) (hw : Cur w) : W Try.prog 12 V55 c55 Q e w = (opsW (nx Try.prog) mv gdP 12 V55 o55_0 (fun e w => W Try.prog 12 V55 c55R Q e w) o55_0.toList [] e e w) := by
  rw [(by kernel_rfl : c55 = .seq (.region 0 o55_0 false) c55R), W_seq_reg]
theorem call55 {a0 a1 a2 : Value} {w : World} {R : Value → World → Prop} (h : W Try.prog 12 V55 c55 (retQ Try.prog [.tmp 4] R) (argE [a0, a1, a2]) w) : CallsN Try.prog 55 [a0, a1, a2] w R :=
  callsN_of_W (c := c55) (rs := [.tmp 4]) V55 Try.ntmps55 (by rw [Try.results55]) mixed Try.func55 (by kernel_rfl) (by kernel_rfl) (by kernel_rfl) (by kernel_rfl) (by simp) h
-- K55: ↓o55_0_eq, ↓o55_1_eq, ↓c55R_s, ↓c55_s
/-! ### vouch/store.check -/
def V56 : Nat → Bool := fun i => [0, 2, 3, 4, 5, 6, 8, 16, 18, 19, 20, 21, 27, 44].elem i
noncomputable def c56 : Code := (Try.f56.body.getD .skip)
noncomputable def o56_0 : Array Oper := rO (cL (Try.f56.body.getD .skip))
noncomputable def c56R : Code := (cR (Try.f56.body.getD .skip))
noncomputable def c56RR : Code := (cR (cR (Try.f56.body.getD .skip)))
noncomputable def o56_3 : Array Oper := rO (cL (cR (cR (Try.f56.body.getD .skip))))
noncomputable def c56RRR : Code := (cR (cR (cR (Try.f56.body.getD .skip))))
noncomputable def o56_4 : Array Oper := rO (cL (cR (cR (cR (Try.f56.body.getD .skip)))))
noncomputable def c56RRRR : Code := (cR (cR (cR (cR (Try.f56.body.getD .skip)))))
noncomputable def c56RRRRR : Code := (cR (cR (cR (cR (cR (Try.f56.body.getD .skip))))))
noncomputable def c56RRRRRR : Code := (cR (cR (cR (cR (cR (cR (Try.f56.body.getD .skip)))))))
noncomputable def o56_16 : Array Oper := rO (cL (cR (cR (cR (cR (cR (cR (Try.f56.body.getD .skip))))))))
noncomputable def c56RRRRRL : Code := (cL (cR (cR (cR (cR (cR (Try.f56.body.getD .skip)))))))
noncomputable def o56_14 : Array Oper := rO (cL (cL (cR (cR (cR (cR (cR (Try.f56.body.getD .skip))))))))
noncomputable def c56RRRRRLR : Code := (cR (cL (cR (cR (cR (cR (cR (Try.f56.body.getD .skip))))))))
noncomputable def c56RRRRRLRL : Code := (cL (cR (cL (cR (cR (cR (cR (cR (Try.f56.body.getD .skip)))))))))
noncomputable def o56_15 : Array Oper := rO (cL (cL (cR (cL (cR (cR (cR (cR (cR (Try.f56.body.getD .skip))))))))))
noncomputable def c56RRRRL : Code := (cL (cR (cR (cR (cR (Try.f56.body.getD .skip))))))
noncomputable def o56_5 : Array Oper := rO (cL (cL (cR (cR (cR (cR (Try.f56.body.getD .skip)))))))
noncomputable def c56RRRRLR : Code := (cR (cL (cR (cR (cR (cR (Try.f56.body.getD .skip)))))))
noncomputable def c56RRRRLRL : Code := (cL (cR (cL (cR (cR (cR (cR (Try.f56.body.getD .skip))))))))
noncomputable def c56RRRRLRLL : Code := (cL (cL (cR (cL (cR (cR (cR (cR (Try.f56.body.getD .skip)))))))))
noncomputable def o56_6 : Array Oper := rO (cL (cL (cL (cR (cL (cR (cR (cR (cR (Try.f56.body.getD .skip))))))))))
noncomputable def c56RRRRLRLLR : Code := (cR (cL (cL (cR (cL (cR (cR (cR (cR (Try.f56.body.getD .skip))))))))))
noncomputable def c56RRRRLRLLRR : Code := (cR (cR (cL (cL (cR (cL (cR (cR (cR (cR (Try.f56.body.getD .skip)))))))))))
noncomputable def c56RRRRLRLLRRR : Code := (cR (cR (cR (cL (cL (cR (cL (cR (cR (cR (cR (Try.f56.body.getD .skip))))))))))))
noncomputable def o56_13 : Array Oper := rO (cR (cR (cR (cL (cL (cR (cL (cR (cR (cR (cR (Try.f56.body.getD .skip))))))))))))
noncomputable def c56RRRRLRLLRRL : Code := (cL (cR (cR (cL (cL (cR (cL (cR (cR (cR (cR (Try.f56.body.getD .skip))))))))))))
noncomputable def c56RRRRLRLLRRLL : Code := (cL (cL (cR (cR (cL (cL (cR (cL (cR (cR (cR (cR (Try.f56.body.getD .skip)))))))))))))
noncomputable def o56_7 : Array Oper := rO (cL (cL (cL (cR (cR (cL (cL (cR (cL (cR (cR (cR (cR (Try.f56.body.getD .skip))))))))))))))
noncomputable def c56RRRRLRLLRRLLR : Code := (cR (cL (cL (cR (cR (cL (cL (cR (cL (cR (cR (cR (cR (Try.f56.body.getD .skip))))))))))))))
noncomputable def c56RRRRLRLLRRLLRR : Code := (cR (cR (cL (cL (cR (cR (cL (cL (cR (cL (cR (cR (cR (cR (Try.f56.body.getD .skip)))))))))))))))
noncomputable def o56_10 : Array Oper := rO (cL (cR (cR (cL (cL (cR (cR (cL (cL (cR (cL (cR (cR (cR (cR (Try.f56.body.getD .skip))))))))))))))))
noncomputable def c56RRRRLRLLRRLLRRR : Code := (cR (cR (cR (cL (cL (cR (cR (cL (cL (cR (cL (cR (cR (cR (cR (Try.f56.body.getD .skip))))))))))))))))
noncomputable def o56_11 : Array Oper := rO (cL (cR (cR (cR (cL (cL (cR (cR (cL (cL (cR (cL (cR (cR (cR (cR (Try.f56.body.getD .skip)))))))))))))))))
noncomputable def c56RRRRLRLLRRLLRRRR : Code := (cR (cR (cR (cR (cL (cL (cR (cR (cL (cL (cR (cL (cR (cR (cR (cR (Try.f56.body.getD .skip)))))))))))))))))
noncomputable def o56_12 : Array Oper := rO (cR (cR (cR (cR (cL (cL (cR (cR (cL (cL (cR (cL (cR (cR (cR (cR (Try.f56.body.getD .skip)))))))))))))))))
noncomputable def c56RRRRLRLLRRLLRL : Code := (cL (cR (cL (cL (cR (cR (cL (cL (cR (cL (cR (cR (cR (cR (Try.f56.body.getD .skip)))))))))))))))
noncomputable def o56_8 : Array Oper := rO (cL (cL (cR (cL (cL (cR (cR (cL (cL (cR (cL (cR (cR (cR (cR (Try.f56.body.getD .skip))))))))))))))))
noncomputable def c56RRRRLRLLRRLLRLR : Code := (cR (cL (cR (cL (cL (cR (cR (cL (cL (cR (cL (cR (cR (cR (cR (Try.f56.body.getD .skip))))))))))))))))
noncomputable def c56RRRRLRLLRRLLRLRL : Code := (cL (cR (cL (cR (cL (cL (cR (cR (cL (cL (cR (cL (cR (cR (cR (cR (Try.f56.body.getD .skip)))))))))))))))))
noncomputable def o56_9 : Array Oper := rO (cL (cL (cR (cL (cR (cL (cL (cR (cR (cL (cL (cR (cL (cR (cR (cR (cR (Try.f56.body.getD .skip))))))))))))))))))
noncomputable def c56RRRRLRLLRL : Code := (cL (cR (cL (cL (cR (cL (cR (cR (cR (cR (Try.f56.body.getD .skip)))))))))))
noncomputable def c56RL : Code := (cL (cR (Try.f56.body.getD .skip)))
noncomputable def o56_1 : Array Oper := rO (cL (cL (cR (Try.f56.body.getD .skip))))
noncomputable def c56RLR : Code := (cR (cL (cR (Try.f56.body.getD .skip))))
noncomputable def c56RLRL : Code := (cL (cR (cL (cR (Try.f56.body.getD .skip)))))
noncomputable def o56_2 : Array Oper := rO (cL (cL (cR (cL (cR (Try.f56.body.getD .skip))))))
theorem o56_0_eq (N : Sem Next → World → (Value → World → Prop) → Prop) (M : Value → (Value → Prop) → Prop) (G : Bool → ((Value → World → Prop) → Prop) → (Value → World → Prop) → World → Prop) (k : Env → World → Prop) (e : Env) (w : World) : opsW N M G 45 V56 o56_0 k o56_0.toList [] e e w =
    (M (Value.int IntKind.i64 0) fun t2 =>
    k (Env.p e 2 t2) w) := nr (by kernel_rfl)
theorem o56_3_eq (N : Sem Next → World → (Value → World → Prop) → Prop) (M : Value → (Value → Prop) → Prop) (G : Bool → ((Value → World → Prop) → Prop) → (Value → World → Prop) → World → Prop) (k : Env → World → Prop) (e : Env) (w : World) : opsW N M G 45 V56 o56_3 k o56_3.toList [] e e w =
    (N (xv (Instr.makeMap 159 none)) w fun t17 w =>
    M t17 fun t3 =>
    k (Env.p e 3 t3) w) := nr (by kernel_rfl)
theorem o56_4_eq (N : Sem Next → World → (Value → World → Prop) → Prop) (M : Value → (Value → Prop) → Prop) (G : Bool → ((Value → World → Prop) → Prop) → (Value → World → Prop) → World → Prop) (k : Env → World → Prop) (e : Env) (w : World) : opsW N M G 45 V56 o56_4 k o56_4.toList [] e e w =
    (M (Value.bool false) fun t4 =>
    k (Env.p e 4 t4) w) := nr (by kernel_rfl)
theorem o56_16_eq (N : Sem Next → World → (Value → World → Prop) → Prop) (M : Value → (Value → Prop) → Prop) (G : Bool → ((Value → World → Prop) → Prop) → (Value → World → Prop) → World → Prop) (k : Env → World → Prop) (e : Env) (w : World) : opsW N M G 45 V56 o56_16 k o56_16.toList [] e e w =
    (M (Value.int IntKind.i64 0) fun t2 =>
    k (Env.p e 2 t2) w) := nr (by kernel_rfl)
theorem c56RRRRRR_s (Q : Exit → Env → World → Prop) (e : Env) (w : World) (hw : Cur w) : W Try.prog 45 V56 c56RRRRRR Q e w = (opsW (nx Try.prog) mv gdP 45 V56 o56_16 (fun e w => Q .ret e w) o56_16.toList [] e e w) := by
  rw [(by kernel_rfl : c56RRRRRR = .seq (.region 16 o56_16 false) Code.ret), W_seq_reg]; simp only [W_ret, W_skip, W_exit, W_label]
theorem o56_14_eq (N : Sem Next → World → (Value → World → Prop) → Prop) (M : Value → (Value → Prop) → Prop) (G : Bool → ((Value → World → Prop) → Prop) → (Value → World → Prop) → World → Prop) (k : Env → World → Prop) (e : Env) (w : World) : opsW N M G 45 V56 o56_14 k o56_14.toList [] e e w =
    (M (e 4) fun t44 =>
    k (Env.p e 44 t44) w) := nr (by kernel_rfl)
theorem o56_15_eq (N : Sem Next → World → (Value → World → Prop) → Prop) (M : Value → (Value → Prop) → Prop) (G : Bool → ((Value → World → Prop) → Prop) → (Value → World → Prop) → World → Prop) (k : Env → World → Prop) (e : Env) (w : World) : opsW N M G 45 V56 o56_15 k o56_15.toList [] e e w =
    (M (Value.int IntKind.i64 22) fun t2 =>
    k (Env.p e 2 t2) w) := nr (by kernel_rfl)
theorem c56RRRRRLRL_s (Q : Exit → Env → World → Prop) (e : Env) (w : World) (hw : Cur w) : W Try.prog 45 V56 c56RRRRRLRL Q e w = (opsW (nx Try.prog) mv gdP 45 V56 o56_15 (fun e w => Q .ret e w) o56_15.toList [] e e w) := by
  rw [(by kernel_rfl : c56RRRRRLRL = .seq (.region 15 o56_15 false) Code.ret), W_seq_reg]; simp only [W_ret, W_skip, W_exit, W_label]
theorem c56RRRRRLR_v : opV V56 (.tmp 44) = true := by kernel_rfl
theorem c56RRRRRLR_s (Q : Exit → Env → World → Prop) (e : Env) (w : World) (hw : Cur w) : W Try.prog 45 V56 c56RRRRRLR Q e w = (condP (ev e (.tmp 44)) (W Try.prog 45 V56 c56RRRRRLRL Q e w) (Q .normal e w)) := by
  rw [(by kernel_rfl : c56RRRRRLR = .cond (.tmp 44) c56RRRRRLRL Code.skip), W_cond, c56RRRRRLR_v, cond_true]; simp only [W_ret, W_skip, W_exit, W_label]
theorem c56RRRRRL_s (Q : Exit → Env → World → Prop) (e : Env) (w : World) (hw : Cur w) : W Try.prog 45 V56 c56RRRRRL Q e w = (opsW (nx Try.prog) mv gdP 45 V56 o56_14 (fun e w => W Try.prog 45 V56 c56RRRRRLR Q e w) o56_14.toList [] e e w) := by
  rw [(by kernel_rfl : c56RRRRRL = .seq (.region 14 o56_14 false) c56RRRRRLR), W_seq_reg]
theorem c56RRRRR_s (Q : Exit → Env → World → Prop) (e : Env) (w : World) (hw : Cur w) : W Try.prog 45 V56 c56RRRRR Q e w = (W Try.prog 45 V56 c56RRRRRL (seqQ (fun e w => W Try.prog 45 V56 c56RRRRRR Q e w) Q) e w) := by
  rw [(by kernel_rfl : c56RRRRR = .seq c56RRRRRL c56RRRRRR), W_seq]
theorem o56_5_eq (N : Sem Next → World → (Value → World → Prop) → Prop) (M : Value → (Value → Prop) → Prop) (G : Bool → ((Value → World → Prop) → Prop) → (Value → World → Prop) → World → Prop) (k : Env → World → Prop) (e : Env) (w : World) : opsW N M G 45 V56 o56_5 k o56_5.toList [] e e w =
    (M (e 0) fun t18 =>
    N (builtin Builtin.len #[40] 3 ([false]).toArray ([t18]).toArray) w fun t19 w =>
    M (Value.int IntKind.i64 0) fun t20 =>
    k (Env.p (Env.p (Env.p e 18 t18) 19 t19) 20 t20) w) := nr (by kernel_rfl)
theorem o56_6_eq (N : Sem Next → World → (Value → World → Prop) → Prop) (M : Value → (Value → Prop) → Prop) (G : Bool → ((Value → World → Prop) → Prop) → (Value → World → Prop) → World → Prop) (k : Env → World → Prop) (e : Env) (w : World) : opsW N M G 45 V56 o56_6 k o56_6.toList [] e e w =
    (N (xv (xbin BinOp.lss 3 (Operand.tmp 20) (Operand.tmp 19) (e 20) (e 19))) w fun t21 w =>
    k (Env.p e 21 t21) w) := nr (by kernel_rfl)
theorem o56_13_eq (N : Sem Next → World → (Value → World → Prop) → Prop) (M : Value → (Value → Prop) → Prop) (G : Bool → ((Value → World → Prop) → Prop) → (Value → World → Prop) → World → Prop) (k : Env → World → Prop) (e : Env) (w : World) : opsW N M G 45 V56 o56_13 k o56_13.toList [] e e w =
    (N (xv (xbin BinOp.add 3 (Operand.tmp 20) (Operand.const (Value.int IntKind.i64 1)) (e 20) (Value.int IntKind.i64 1))) w fun t43 w =>
    M t43 fun t20 =>
    k (Env.p e 20 t20) w) := nr (by kernel_rfl)
theorem c56RRRRLRLLRRR_s (Q : Exit → Env → World → Prop) (e : Env) (w : World) (hw : Cur w) : W Try.prog 45 V56 c56RRRRLRLLRRR Q e w = (opsW (nx Try.prog) mv gdP 45 V56 o56_13 (fun e w => Q .normal e w) o56_13.toList [] e e w) := by
  rw [(by kernel_rfl : c56RRRRLRLLRRR = (.region 13 o56_13 false)), W_reg]
theorem o56_7_eq (N : Sem Next → World → (Value → World → Prop) → Prop) (M : Value → (Value → Prop) → Prop) (G : Bool → ((Value → World → Prop) → Prop) → (Value → World → Prop) → World → Prop) (k : Env → World → Prop) (e : Env) (w : World) : opsW N M G 45 V56 o56_7 k o56_7.toList [] e e w =
    (M (e 20) fun t22 =>
    N (xv (Instr.indexAt 40 (e 18) (e 20))) w fun t23 w =>
    N (xv (Instr.loadAt 44 t23)) w fun t24 w =>
    N (xv (Instr.alloc 44 true (.tuple #[]))) w fun t6 w =>
    M t22 fun t5 =>
    N (xu (Instr.storeAt 44 t6 t24)) w fun _ w =>
    k (Env.p (Env.p e 6 t6) 5 t5) w) := nr (by kernel_rfl)
theorem o56_10_eq (N : Sem Next → World → (Value → World → Prop) → Prop) (M : Value → (Value → Prop) → Prop) (G : Bool → ((Value → World → Prop) → Prop) → (Value → World → Prop) → World → Prop) (k : Env → World → Prop) (e : Env) (w : World) : opsW N M G 45 V56 o56_10 k o56_10.toList [] e e w =
    (M (e 3) fun t29 =>
    N (xv (Instr.fieldAt 44 (e 6) 0)) w fun t30 w =>
    N (xv (Instr.loadAt 9 t30)) w fun t31 w =>
    N (xv (Instr.lookup 159 t29 t31 true)) w fun t32 w =>
    M t32 fun t28 =>
    N (xv (Instr.extract t28 0)) w fun t33 w =>
    N (xv (Instr.extract t28 1)) w fun t34 w =>
    M t33 fun t7 =>
    M t34 fun t8 =>
    k (Env.p e 8 t8) w) := nr (by kernel_rfl)
theorem o56_11_eq (N : Sem Next → World → (Value → World → Prop) → Prop) (M : Value → (Value → Prop) → Prop) (G : Bool → ((Value → World → Prop) → Prop) → (Value → World → Prop) → World → Prop) (k : Env → World → Prop) (e : Env) (w : World) : opsW N M G 45 V56 o56_11 k o56_11.toList [] e e w =
    (M (e 4) fun t35 =>
    M t35 fun t36 =>
    G (isB t36 false) (fun K => M (e 8) fun v => K v w) (fun t37 w =>
    N (xpick t36 (Value.bool true) t37) w fun t38 w =>
    M t38 fun t4 =>
    k (Env.p e 4 t4) w) w) := nr (by kernel_rfl)
theorem o56_12_eq (N : Sem Next → World → (Value → World → Prop) → Prop) (M : Value → (Value → Prop) → Prop) (G : Bool → ((Value → World → Prop) → Prop) → (Value → World → Prop) → World → Prop) (k : Env → World → Prop) (e : Env) (w : World) : opsW N M G 45 V56 o56_12 k o56_12.toList [] e e w =
    (M (e 3) fun t39 =>
    N (xv (Instr.fieldAt 44 (e 6) 0)) w fun t40 w =>
    N (xv (Instr.loadAt 9 t40)) w fun t41 w =>
    M (e 5) fun t42 =>
    N (xu (Instr.mapUpdate 159 t39 t41 t42)) w fun _ w =>
    k e w) := nr (by kernel_rfl)
theorem c56RRRRLRLLRRLLRRRR_s (Q : Exit → Env → World → Prop) (e : Env) (w : World) (hw : Cur w) : W Try.prog 45 V56 c56RRRRLRLLRRLLRRRR Q e w = (opsW (nx Try.prog) mv gdP 45 V56 o56_12 (fun e w => Q .normal e w) o56_12.toList [] e e w) := by
  rw [(by kernel_rfl : c56RRRRLRLLRRLLRRRR = (.region 12 o56_12 false)), W_reg]
theorem c56RRRRLRLLRRLLRRR_s (Q : Exit → Env → World → Prop) (e : Env) (w : World) (hw : Cur w) : W Try.prog 45 V56 c56RRRRLRLLRRLLRRR Q e w = (opsW (nx Try.prog) mv gdP 45 V56 o56_11 (fun e w => W Try.prog 45 V56 c56RRRRLRLLRRLLRRRR Q e w) o56_11.toList [] e e w) := by
  rw [(by kernel_rfl : c56RRRRLRLLRRLLRRR = .seq (.region 11 o56_11 false) c56RRRRLRLLRRLLRRRR), W_seq_reg]
theorem c56RRRRLRLLRRLLRR_s (Q : Exit → Env → World → Prop) (e : Env) (w : World) (hw : Cur w) : W Try.prog 45 V56 c56RRRRLRLLRRLLRR Q e w = (opsW (nx Try.prog) mv gdP 45 V56 o56_10 (fun e w => W Try.prog 45 V56 c56RRRRLRLLRRLLRRR Q e w) o56_10.toList [] e e w) := by
  rw [(by kernel_rfl : c56RRRRLRLLRRLLRR = .seq (.region 10 o56_10 false) c56RRRRLRLLRRLLRRR), W_seq_reg]
theorem o56_8_eq (N : Sem Next → World → (Value → World → Prop) → Prop) (M : Value → (Value → Prop) → Prop) (G : Bool → ((Value → World → Prop) → Prop) → (Value → World → Prop) → World → Prop) (k : Env → World → Prop) (e : Env) (w : World) : opsW N M G 45 V56 o56_8 k o56_8.toList [] e e w =
    (N (xv (Instr.loadAt 44 (e 6))) w fun t25 w =>
    N (xcall (Value.func (Fn.func 84) #[] #[]) [t25]) w fun t26 w =>
    N (xv (Op.unary UnOp.not t26)) w fun t27 w =>
    k (Env.p e 27 t27) w) := nr (by kernel_rfl)
theorem o56_9_eq (N : Sem Next → World → (Value → World → Prop) → Prop) (M : Value → (Value → Prop) → Prop) (G : Bool → ((Value → World → Prop) → Prop) → (Value → World → Prop) → World → Prop) (k : Env → World → Prop) (e : Env) (w : World) : opsW N M G 45 V56 o56_9 k o56_9.toList [] e e w =
    (M (Value.int IntKind.i64 1) fun t2 =>
    k (Env.p e 2 t2) w) := nr (by kernel_rfl)
theorem c56RRRRLRLLRRLLRLRL_s (Q : Exit → Env → World → Prop) (e : Env) (w : World) (hw : Cur w) : W Try.prog 45 V56 c56RRRRLRLLRRLLRLRL Q e w = (opsW (nx Try.prog) mv gdP 45 V56 o56_9 (fun e w => Q .ret e w) o56_9.toList [] e e w) := by
  rw [(by kernel_rfl : c56RRRRLRLLRRLLRLRL = .seq (.region 9 o56_9 false) Code.ret), W_seq_reg]; simp only [W_ret, W_skip, W_exit, W_label]
theorem c56RRRRLRLLRRLLRLR_v : opV V56 (.tmp 27) = true := by kernel_rfl
theorem c56RRRRLRLLRRLLRLR_s (Q : Exit → Env → World → Prop) (e : Env) (w : World) (hw : Cur w) : W Try.prog 45 V56 c56RRRRLRLLRRLLRLR Q e w = (condP (ev e (.tmp 27)) (W Try.prog 45 V56 c56RRRRLRLLRRLLRLRL Q e w) (Q .normal e w)) := by
  rw [(by kernel_rfl : c56RRRRLRLLRRLLRLR = .cond (.tmp 27) c56RRRRLRLLRRLLRLRL Code.skip), W_cond, c56RRRRLRLLRRLLRLR_v, cond_true]; simp only [W_ret, W_skip, W_exit, W_label]
theorem c56RRRRLRLLRRLLRL_s (Q : Exit → Env → World → Prop) (e : Env) (w : World) (hw : Cur w) : W Try.prog 45 V56 c56RRRRLRLLRRLLRL Q e w = (opsW (nx Try.prog) mv gdP 45 V56 o56_8 (fun e w => W Try.prog 45 V56 c56RRRRLRLLRRLLRLR Q e w) o56_8.toList [] e e w) := by
  rw [(by kernel_rfl : c56RRRRLRLLRRLLRL = .seq (.region 8 o56_8 false) c56RRRRLRLLRRLLRLR), W_seq_reg]
theorem c56RRRRLRLLRRLLR_s (Q : Exit → Env → World → Prop) (e : Env) (w : World) (hw : Cur w) : W Try.prog 45 V56 c56RRRRLRLLRRLLR Q e w = (W Try.prog 45 V56 c56RRRRLRLLRRLLRL (seqQ (fun e w => W Try.prog 45 V56 c56RRRRLRLLRRLLRR Q e w) Q) e w) := by
  rw [(by kernel_rfl : c56RRRRLRLLRRLLR = .seq c56RRRRLRLLRRLLRL c56RRRRLRLLRRLLRR), W_seq]
theorem c56RRRRLRLLRRLL_s (Q : Exit → Env → World → Prop) (e : Env) (w : World) (hw : Cur w) : W Try.prog 45 V56 c56RRRRLRLLRRLL Q e w = (opsW (nx Try.prog) mv gdP 45 V56 o56_7 (fun e w => W Try.prog 45 V56 c56RRRRLRLLRRLLR Q e w) o56_7.toList [] e e w) := by
  rw [(by kernel_rfl : c56RRRRLRLLRRLL = .seq (.region 7 o56_7 false) c56RRRRLRLLRRLLR), W_seq_reg]
theorem c56RRRRLRLLRRL_s (Q : Exit → Env → World → Prop) (e : Env) (w : World) (hw : Cur w) : W Try.prog 45 V56 c56RRRRLRLLRRL Q e w = (W Try.prog 45 V56 c56RRRRLRLLRRLL (blockQ 1 Q) e w) := by
  rw [(by kernel_rfl : c56RRRRLRLLRRL = .block 1 c56RRRRLRLLRRLL), W_block]
theorem c56RRRRLRLLRR_s (Q : Exit → Env → World → Prop) (e : Env) (w : World) (hw : Cur w) : W Try.prog 45 V56 c56RRRRLRLLRR Q e w = (W Try.prog 45 V56 c56RRRRLRLLRRL (seqQ (fun e w => W Try.prog 45 V56 c56RRRRLRLLRRR Q e w) Q) e w) := by
  rw [(by kernel_rfl : c56RRRRLRLLRR = .seq c56RRRRLRLLRRL c56RRRRLRLLRRR), W_seq]
theorem c56RRRRLRLLRL_v : opV V56 (.tmp 21) = true := by kernel_rfl
theorem c56RRRRLRLLRL_s (Q : Exit → Env → World → Prop) (e : Env) (w : World) (hw : Cur w) : W Try.prog 45 V56 c56RRRRLRLLRL Q e w = (condP (ev e (.tmp 21)) (Q .normal e w) (Q (.exit 0) e w)) := by
  rw [(by kernel_rfl : c56RRRRLRLLRL = .cond (.tmp 21) Code.skip (Code.exit 0)), W_cond, c56RRRRLRLLRL_v, cond_true]; simp only [W_ret, W_skip, W_exit, W_label]
theorem c56RRRRLRLLR_s (Q : Exit → Env → World → Prop) (e : Env) (w : World) (hw : Cur w) : W Try.prog 45 V56 c56RRRRLRLLR Q e w = (W Try.prog 45 V56 c56RRRRLRLLRL (seqQ (fun e w => W Try.prog 45 V56 c56RRRRLRLLRR Q e w) Q) e w) := by
  rw [(by kernel_rfl : c56RRRRLRLLR = .seq c56RRRRLRLLRL c56RRRRLRLLRR), W_seq]
theorem c56RRRRLRLL_s (Q : Exit → Env → World → Prop) (e : Env) (w : World) (hw : Cur w) : W Try.prog 45 V56 c56RRRRLRLL Q e w = (opsW (nx Try.prog) mv gdP 45 V56 o56_6 (fun e w => W Try.prog 45 V56 c56RRRRLRLLR Q e w) o56_6.toList [] e e w) := by
  rw [(by kernel_rfl : c56RRRRLRLL = .seq (.region 6 o56_6 false) c56RRRRLRLLR), W_seq_reg]
theorem c56RRRRLRL_s (Q : Exit → Env → World → Prop) (e : Env) (w : World) (hw : Cur w) : W Try.prog 45 V56 c56RRRRLRL Q e w = (LoopP (fun e w k => W Try.prog 45 V56 c56RRRRLRLL (seqQ k Q) e w) e w) := by
  rw [(by kernel_rfl : c56RRRRLRL = .loop c56RRRRLRLL), W_loop]
theorem c56RRRRLR_s (Q : Exit → Env → World → Prop) (e : Env) (w : World) (hw : Cur w) : W Try.prog 45 V56 c56RRRRLR Q e w = (W Try.prog 45 V56 c56RRRRLRL (blockQ 0 Q) e w) := by
  rw [(by kernel_rfl : c56RRRRLR = .block 0 c56RRRRLRL), W_block]
theorem c56RRRRL_s (Q : Exit → Env → World → Prop) (e : Env) (w : World) (hw : Cur w) : W Try.prog 45 V56 c56RRRRL Q e w = (opsW (nx Try.prog) mv gdP 45 V56 o56_5 (fun e w => W Try.prog 45 V56 c56RRRRLR Q e w) o56_5.toList [] e e w) := by
  rw [(by kernel_rfl : c56RRRRL = .seq (.region 5 o56_5 false) c56RRRRLR), W_seq_reg]
theorem c56RRRR_s (Q : Exit → Env → World → Prop) (e : Env) (w : World) (hw : Cur w) : W Try.prog 45 V56 c56RRRR Q e w = (W Try.prog 45 V56 c56RRRRL (seqQ (fun e w => W Try.prog 45 V56 c56RRRRR Q e w) Q) e w) := by
  rw [(by kernel_rfl : c56RRRR = .seq c56RRRRL c56RRRRR), W_seq]
theorem c56RRR_s (Q : Exit → Env → World → Prop) (e : Env) (w : World) (hw : Cur w) : W Try.prog 45 V56 c56RRR Q e w = (opsW (nx Try.prog) mv gdP 45 V56 o56_4 (fun e w => W Try.prog 45 V56 c56RRRR Q e w) o56_4.toList [] e e w) := by
  rw [(by kernel_rfl : c56RRR = .seq (.region 4 o56_4 false) c56RRRR), W_seq_reg]
theorem c56RR_s (Q : Exit → Env → World → Prop) (e : Env) (w : World) (hw : Cur w) : W Try.prog 45 V56 c56RR Q e w = (opsW (nx Try.prog) mv gdP 45 V56 o56_3 (fun e w => W Try.prog 45 V56 c56RRR Q e w) o56_3.toList [] e e w) := by
  rw [(by kernel_rfl : c56RR = .seq (.region 3 o56_3 false) c56RRR), W_seq_reg]
theorem o56_1_eq (N : Sem Next → World → (Value → World → Prop) → Prop) (M : Value → (Value → Prop) → Prop) (G : Bool → ((Value → World → Prop) → Prop) → (Value → World → Prop) → World → Prop) (k : Env → World → Prop) (e : Env) (w : World) : opsW N M G 45 V56 o56_1 k o56_1.toList [] e e w =
    (M (e 0) fun t9 =>
    N (builtin Builtin.len #[40] 3 ([false]).toArray ([t9]).toArray) w fun t10 w =>
    N (xv (xbin BinOp.eql 3 (Operand.tmp 10) (Operand.const (Value.int IntKind.i64 0)) t10 (Value.int IntKind.i64 0))) w fun t11 w =>
    M t11 fun t12 =>
    G (isB t12 false) (fun K => M (e 0) fun v => K v w) (fun t13 w =>
    G (isB t12 false) (fun K => N (builtin Builtin.len #[40] 3 ([false]).toArray ([t13]).toArray) w K) (fun t14 w =>
    G (isB t12 false) (fun K => N (xv (xbin BinOp.gtr 3 (Operand.tmp 14) (Operand.const (Value.int IntKind.i64 8)) t14 (Value.int IntKind.i64 8))) w K) (fun t15 w =>
    N (xpick t12 (Value.bool true) t15) w fun t16 w =>
    k (Env.p e 16 t16) w) w) w) w) := nr (by kernel_rfl)
theorem o56_2_eq (N : Sem Next → World → (Value → World → Prop) → Prop) (M : Value → (Value → Prop) → Prop) (G : Bool → ((Value → World → Prop) → Prop) → (Value → World → Prop) → World → Prop) (k : Env → World → Prop) (e : Env) (w : World) : opsW N M G 45 V56 o56_2 k o56_2.toList [] e e w =
    (M (Value.int IntKind.i64 1) fun t2 =>
    k (Env.p e 2 t2) w) := nr (by kernel_rfl)
theorem c56RLRL_s (Q : Exit → Env → World → Prop) (e : Env) (w : World) (hw : Cur w) : W Try.prog 45 V56 c56RLRL Q e w = (opsW (nx Try.prog) mv gdP 45 V56 o56_2 (fun e w => Q .ret e w) o56_2.toList [] e e w) := by
  rw [(by kernel_rfl : c56RLRL = .seq (.region 2 o56_2 false) Code.ret), W_seq_reg]; simp only [W_ret, W_skip, W_exit, W_label]
theorem c56RLR_v : opV V56 (.tmp 16) = true := by kernel_rfl
theorem c56RLR_s (Q : Exit → Env → World → Prop) (e : Env) (w : World) (hw : Cur w) : W Try.prog 45 V56 c56RLR Q e w = (condP (ev e (.tmp 16)) (W Try.prog 45 V56 c56RLRL Q e w) (Q .normal e w)) := by
  rw [(by kernel_rfl : c56RLR = .cond (.tmp 16) c56RLRL Code.skip), W_cond, c56RLR_v, cond_true]; simp only [W_ret, W_skip, W_exit, W_label]
theorem c56RL_s (Q : Exit → Env → World → Prop) (e : Env) (w : World) (hw : Cur w) : W Try.prog 45 V56 c56RL Q e w = (opsW (nx Try.prog) mv gdP 45 V56 o56_1 (fun e w => W Try.prog 45 V56 c56RLR Q e w) o56_1.toList [] e e w) := by
  rw [(by kernel_rfl : c56RL = .seq (.region 1 o56_1 false) c56RLR), W_seq_reg]
theorem c56R_s (Q : Exit → Env → World → Prop) (e : Env) (w : World) (hw : Cur w) : W Try.prog 45 V56 c56R Q e w = (W Try.prog 45 V56 c56RL (seqQ (fun e w => W Try.prog 45 V56 c56RR Q e w) Q) e w) := by
  rw [(by kernel_rfl : c56R = .seq c56RL c56RR), W_seq]
theorem c56_s (Q : Exit → Env → World → Prop) (e : Env) (w : World) (hw : Cur w) : W Try.prog 45 V56 c56 Q e w = (opsW (nx Try.prog) mv gdP 45 V56 o56_0 (fun e w => W Try.prog 45 V56 c56R Q e w) o56_0.toList [] e e w) := by
  rw [(by kernel_rfl : c56 = .seq (.region 0 o56_0 false) c56R), W_seq_reg]
theorem call56 {a0 : Value} {w : World} {R : Value → World → Prop} (h : W Try.prog 45 V56 c56 (retQ Try.prog [.tmp 2] R) (argE [a0]) w) : CallsN Try.prog 56 [a0] w R :=
  callsN_of_W (c := c56) (rs := [.tmp 2]) V56 Try.ntmps56 (by rw [Try.results56]) mixed Try.func56 (by kernel_rfl) (by kernel_rfl) (by kernel_rfl) (by kernel_rfl) (by simp) h
-- K56: ↓o56_0_eq, ↓o56_3_eq, ↓o56_4_eq, ↓o56_16_eq, ↓c56RRRRRR_s, ↓o56_14_eq, ↓o56_15_eq, ↓c56RRRRRLRL_s, ↓c56RRRRRLR_s, ↓c56RRRRRL_s, ↓c56RRRRR_s, ↓o56_5_eq, ↓o56_6_eq, ↓o56_13_eq, ↓c56RRRRLRLLRRR_s, ↓o56_7_eq, ↓o56_10_eq, ↓o56_11_eq, ↓o56_12_eq, ↓c56RRRRLRLLRRLLRRRR_s, ↓c56RRRRLRLLRRLLRRR_s, ↓c56RRRRLRLLRRLLRR_s, ↓o56_8_eq, ↓o56_9_eq, ↓c56RRRRLRLLRRLLRLRL_s, ↓c56RRRRLRLLRRLLRLR_s, ↓c56RRRRLRLLRRLLRL_s, ↓c56RRRRLRLLRRLLR_s, ↓c56RRRRLRLLRRLL_s, ↓c56RRRRLRLLRRL_s, ↓c56RRRRLRLLRR_s, ↓c56RRRRLRLLRL_s, ↓c56RRRRLRLLR_s, ↓c56RRRRLRLL_s, ↓c56RRRRLRL_s, ↓c56RRRRLR_s, ↓c56RRRRL_s, ↓c56RRRR_s, ↓c56RRR_s, ↓c56RR_s, ↓o56_1_eq, ↓o56_2_eq, ↓c56RLRL_s, ↓c56RLR_s, ↓c56RL_s, ↓c56R_s, ↓c56_s
/-! ### slices.Clone[[]vouch/api.Version,vouch/api.Version] -/
def V57 : Nat → Bool := fun i => [0, 2, 4].elem i
noncomputable def c57 : Code := (Try.f57.body.getD .skip)
noncomputable def o57_0 : Array Oper := rO (cL (Try.f57.body.getD .skip))
noncomputable def c57R : Code := (cR (Try.f57.body.getD .skip))
noncomputable def c57RR : Code := (cR (cR (Try.f57.body.getD .skip)))
noncomputable def o57_3 : Array Oper := rO (cL (cR (cR (Try.f57.body.getD .skip))))
noncomputable def c57RL : Code := (cL (cR (Try.f57.body.getD .skip)))
noncomputable def o57_1 : Array Oper := rO (cL (cL (cR (Try.f57.body.getD .skip))))
noncomputable def c57RLR : Code := (cR (cL (cR (Try.f57.body.getD .skip))))
noncomputable def c57RLRL : Code := (cL (cR (cL (cR (Try.f57.body.getD .skip)))))
noncomputable def o57_2 : Array Oper := rO (cL (cL (cR (cL (cR (Try.f57.body.getD .skip))))))
theorem o57_0_eq (N : Sem Next → World → (Value → World → Prop) → Prop) (M : Value → (Value → Prop) → Prop) (G : Bool → ((Value → World → Prop) → Prop) → (Value → World → Prop) → World → Prop) (k : Env → World → Prop) (e : Env) (w : World) : opsW N M G 8 V57 o57_0 k o57_0.toList [] e e w =
    (M (Value.slice none 0 0) fun t2 =>
    k (Env.p e 2 t2) w) := nr (by kernel_rfl)
theorem o57_3_eq (N : Sem Next → World → (Value → World → Prop) → Prop) (M : Value → (Value → Prop) → Prop) (G : Bool → ((Value → World → Prop) → Prop) → (Value → World → Prop) → World → Prop) (k : Env → World → Prop) (e : Env) (w : World) : opsW N M G 8 V57 o57_3 k o57_3.toList [] e e w =
    (N (xv (Instr.buildSlice 46 0 ([]).toArray)) w fun t5 w =>
    M (e 0) fun t6 =>
    N (builtin Builtin.append #[46, 46] 46 ([false, false]).toArray ([t5, t6]).toArray) w fun t7 w =>
    M t7 fun t2 =>
    k (Env.p e 2 t2) w) := nr (by kernel_rfl)
theorem c57RR_s (Q : Exit → Env → World → Prop) (e : Env) (w : World) (hw : Cur w) : W Try.prog 8 V57 c57RR Q e w = (opsW (nx Try.prog) mv gdP 8 V57 o57_3 (fun e w => Q .ret e w) o57_3.toList [] e e w) := by
  rw [(by kernel_rfl : c57RR = .seq (.region 3 o57_3 false) Code.ret), W_seq_reg]; simp only [W_ret, W_skip, W_exit, W_label]
theorem o57_1_eq (N : Sem Next → World → (Value → World → Prop) → Prop) (M : Value → (Value → Prop) → Prop) (G : Bool → ((Value → World → Prop) → Prop) → (Value → World → Prop) → World → Prop) (k : Env → World → Prop) (e : Env) (w : World) : opsW N M G 8 V57 o57_1 k o57_1.toList [] e e w =
    (M (e 0) fun t3 =>
    N (xv (xbin BinOp.eql 46 (Operand.tmp 3) (Operand.const (Value.slice none 0 0)) t3 (Value.slice none 0 0))) w fun t4 w =>
    k (Env.p e 4 t4) w) := nr (by kernel_rfl)
theorem o57_2_eq (N : Sem Next → World → (Value → World → Prop) → Prop) (M : Value → (Value → Prop) → Prop) (G : Bool → ((Value → World → Prop) → Prop) → (Value → World → Prop) → World → Prop) (k : Env → World → Prop) (e : Env) (w : World) : opsW N M G 8 V57 o57_2 k o57_2.toList [] e e w =
    (M (Value.slice none 0 0) fun t2 =>
    k (Env.p e 2 t2) w) := nr (by kernel_rfl)
theorem c57RLRL_s (Q : Exit → Env → World → Prop) (e : Env) (w : World) (hw : Cur w) : W Try.prog 8 V57 c57RLRL Q e w = (opsW (nx Try.prog) mv gdP 8 V57 o57_2 (fun e w => Q .ret e w) o57_2.toList [] e e w) := by
  rw [(by kernel_rfl : c57RLRL = .seq (.region 2 o57_2 false) Code.ret), W_seq_reg]; simp only [W_ret, W_skip, W_exit, W_label]
theorem c57RLR_v : opV V57 (.tmp 4) = true := by kernel_rfl
theorem c57RLR_s (Q : Exit → Env → World → Prop) (e : Env) (w : World) (hw : Cur w) : W Try.prog 8 V57 c57RLR Q e w = (condP (ev e (.tmp 4)) (W Try.prog 8 V57 c57RLRL Q e w) (Q .normal e w)) := by
  rw [(by kernel_rfl : c57RLR = .cond (.tmp 4) c57RLRL Code.skip), W_cond, c57RLR_v, cond_true]; simp only [W_ret, W_skip, W_exit, W_label]
theorem c57RL_s (Q : Exit → Env → World → Prop) (e : Env) (w : World) (hw : Cur w) : W Try.prog 8 V57 c57RL Q e w = (opsW (nx Try.prog) mv gdP 8 V57 o57_1 (fun e w => W Try.prog 8 V57 c57RLR Q e w) o57_1.toList [] e e w) := by
  rw [(by kernel_rfl : c57RL = .seq (.region 1 o57_1 false) c57RLR), W_seq_reg]
theorem c57R_s (Q : Exit → Env → World → Prop) (e : Env) (w : World) (hw : Cur w) : W Try.prog 8 V57 c57R Q e w = (W Try.prog 8 V57 c57RL (seqQ (fun e w => W Try.prog 8 V57 c57RR Q e w) Q) e w) := by
  rw [(by kernel_rfl : c57R = .seq c57RL c57RR), W_seq]
theorem c57_s (Q : Exit → Env → World → Prop) (e : Env) (w : World) (hw : Cur w) : W Try.prog 8 V57 c57 Q e w = (opsW (nx Try.prog) mv gdP 8 V57 o57_0 (fun e w => W Try.prog 8 V57 c57R Q e w) o57_0.toList [] e e w) := by
  rw [(by kernel_rfl : c57 = .seq (.region 0 o57_0 false) c57R), W_seq_reg]
theorem call57 {a0 : Value} {w : World} {R : Value → World → Prop} (h : W Try.prog 8 V57 c57 (retQ Try.prog [.tmp 2] R) (argE [a0]) w) : CallsN Try.prog 57 [a0] w R :=
  callsN_of_W (c := c57) (rs := [.tmp 2]) V57 Try.ntmps57 (by rw [Try.results57]) mixed Try.func57 (by kernel_rfl) (by kernel_rfl) (by kernel_rfl) (by kernel_rfl) (by simp) h
-- K57: ↓o57_0_eq, ↓o57_3_eq, ↓c57RR_s, ↓o57_1_eq, ↓o57_2_eq, ↓c57RLRL_s, ↓c57RLR_s, ↓c57RL_s, ↓c57R_s, ↓c57_s
/-! ### vouch/store.goodWrite -/
def V84 : Nat → Bool := fun i => [0, 1, 2].elem i
noncomputable def c84 : Code := (Try.f84.body.getD .skip)
noncomputable def o84_0 : Array Oper := rO (cL (Try.f84.body.getD .skip))
noncomputable def c84R : Code := (cR (Try.f84.body.getD .skip))
noncomputable def o84_1 : Array Oper := rO (cL (cR (Try.f84.body.getD .skip)))
theorem o84_0_eq (N : Sem Next → World → (Value → World → Prop) → Prop) (M : Value → (Value → Prop) → Prop) (G : Bool → ((Value → World → Prop) → Prop) → (Value → World → Prop) → World → Prop) (k : Env → World → Prop) (e : Env) (w : World) : opsW N M G 24 V84 o84_0 k o84_0.toList [] e e w =
    (N (xv (Instr.box 44 (e 0))) w fun t1 w =>
    M (Value.bool false) fun t2 =>
    k (Env.p (Env.p e 1 t1) 2 t2) w) := nr (by kernel_rfl)
theorem o84_1_eq (N : Sem Next → World → (Value → World → Prop) → Prop) (M : Value → (Value → Prop) → Prop) (G : Bool → ((Value → World → Prop) → Prop) → (Value → World → Prop) → World → Prop) (k : Env → World → Prop) (e : Env) (w : World) : opsW N M G 24 V84 o84_1 k o84_1.toList [] e e w =
    (N (xv (Instr.fieldAt 44 (e 1) 0)) w fun t3 w =>
    N (xv (Instr.loadAt 9 t3)) w fun t4 w =>
    N (xcall (Value.func (Fn.func 53) #[] #[]) [t4]) w fun t5 w =>
    M t5 fun t6 =>
    G (isB t6 true) (fun K => N (xv (Instr.fieldAt 44 (e 1) 1)) w K) (fun t7 w =>
    G (isB t6 true) (fun K => N (xv (Instr.fieldAt 29 t7 1)) w K) (fun t8 w =>
    G (isB t6 true) (fun K => N (xv (Instr.loadAt 9 t8)) w K) (fun t9 w =>
    G (isB t6 true) (fun K => N (builtin Builtin.len #[9] 3 ([false]).toArray ([t9]).toArray) w K) (fun t10 w =>
    G (isB t6 true) (fun K => N (xv (xbin BinOp.leq 3 (Operand.tmp 10) (Operand.const (Value.int IntKind.i64 256)) t10 (Value.int IntKind.i64 256))) w K) (fun t11 w =>
    N (xpick t6 t11 (Value.bool false)) w fun t12 w =>
    M t12 fun t13 =>
    G (isB t13 true) (fun K => N (xv (Instr.fieldAt 44 (e 1) 1)) w K) (fun t14 w =>
    G (isB t13 true) (fun K => N (xv (Instr.fieldAt 29 t14 0)) w K) (fun t15 w =>
    G (isB t13 true) (fun K => N (xv (Instr.loadAt 4 t15)) w K) (fun t16 w =>
    G (isB t13 true) (fun K => M t16 fun v => K v w) (fun t17 w =>
    G (isB t17 false) (fun K => N (xv (Instr.fieldAt 44 (e 1) 1)) w K) (fun t18 w =>
    G (isB t17 false) (fun K => N (xv (Instr.fieldAt 29 t18 1)) w K) (fun t19 w =>
    G (isB t17 false) (fun K => N (xv (Instr.loadAt 9 t19)) w K) (fun t20 w =>
    G (isB t17 false) (fun K => N (xv (xbin BinOp.eql 9 (Operand.tmp 20) (Operand.const (Value.string ⟨#[]⟩)) t20 (Value.string ⟨#[]⟩))) w K) (fun t21 w =>
    G (isB t13 true) (fun K => N (xpick t17 (Value.bool true) t21) w K) (fun t22 w =>
    N (xpick t13 t22 (Value.bool false)) w fun t23 w =>
    M t23 fun t2 =>
    k (Env.p e 2 t2) w) w) w) w) w) w) w) w) w) w) w) w) w) w) w) := nr (by kernel_rfl)
theorem c84R_s (Q : Exit → Env → World → Prop) (e : Env) (w : World) (hw : Cur w) : W Try.prog 24 V84 c84R Q e w = (opsW (nx Try.prog) mv gdP 24 V84 o84_1 (fun e w => Q .ret e w) o84_1.toList [] e e w) := by
  rw [(by kernel_rfl : c84R = .seq (.region 1 o84_1 false) Code.ret), W_seq_reg]; simp only [W_ret, W_skip, W_exit, W_label]
theorem c84_s (Q : Exit → Env → World → Prop) (e : Env) (w : World) (hw : Cur w) : W Try.prog 24 V84 c84 Q e w = (opsW (nx Try.prog) mv gdP 24 V84 o84_0 (fun e w => W Try.prog 24 V84 c84R Q e w) o84_0.toList [] e e w) := by
  rw [(by kernel_rfl : c84 = .seq (.region 0 o84_0 false) c84R), W_seq_reg]
theorem call84 {a0 : Value} {w : World} {R : Value → World → Prop} (h : W Try.prog 24 V84 c84 (retQ Try.prog [.tmp 2] R) (argE [a0]) w) : CallsN Try.prog 84 [a0] w R :=
  callsN_of_W (c := c84) (rs := [.tmp 2]) V84 Try.ntmps84 (by rw [Try.results84]) mixed Try.func84 (by kernel_rfl) (by kernel_rfl) (by kernel_rfl) (by kernel_rfl) (by simp) h
-- K84: ↓o84_0_eq, ↓o84_1_eq, ↓c84R_s, ↓c84_s
/-! ### vouch/vouchlaw05.StoreSound -/
def V3 : Nat → Bool := fun i => [0, 1, 2, 3, 8, 9, 10, 11, 12, 13, 14, 16, 26, 35, 90, 102, 111].elem i
noncomputable def c3 : Code := (Try.f3.body.getD .skip)
noncomputable def o3_0 : Array Oper := rO (cL (Try.f3.body.getD .skip))
noncomputable def c3R : Code := (cR (Try.f3.body.getD .skip))
noncomputable def c3RR : Code := (cR (cR (Try.f3.body.getD .skip)))
noncomputable def o3_3 : Array Oper := rO (cL (cR (cR (Try.f3.body.getD .skip))))
noncomputable def c3RRR : Code := (cR (cR (cR (Try.f3.body.getD .skip))))
noncomputable def o3_4 : Array Oper := rO (cL (cR (cR (cR (Try.f3.body.getD .skip)))))
noncomputable def c3RRRR : Code := (cR (cR (cR (cR (Try.f3.body.getD .skip)))))
noncomputable def c3RRRRR : Code := (cR (cR (cR (cR (cR (Try.f3.body.getD .skip))))))
noncomputable def o3_7 : Array Oper := rO (cL (cR (cR (cR (cR (cR (Try.f3.body.getD .skip)))))))
noncomputable def c3RRRRRR : Code := (cR (cR (cR (cR (cR (cR (Try.f3.body.getD .skip)))))))
noncomputable def c3RRRRRRR : Code := (cR (cR (cR (cR (cR (cR (cR (Try.f3.body.getD .skip))))))))
noncomputable def c3RRRRRRRR : Code := (cR (cR (cR (cR (cR (cR (cR (cR (Try.f3.body.getD .skip)))))))))
noncomputable def c3RRRRRRRRR : Code := (cR (cR (cR (cR (cR (cR (cR (cR (cR (Try.f3.body.getD .skip))))))))))
noncomputable def o3_17 : Array Oper := rO (cL (cR (cR (cR (cR (cR (cR (cR (cR (cR (Try.f3.body.getD .skip)))))))))))
noncomputable def c3RRRRRRRRL : Code := (cL (cR (cR (cR (cR (cR (cR (cR (cR (Try.f3.body.getD .skip))))))))))
noncomputable def o3_12 : Array Oper := rO (cL (cL (cR (cR (cR (cR (cR (cR (cR (cR (Try.f3.body.getD .skip)))))))))))
noncomputable def c3RRRRRRRRLR : Code := (cR (cL (cR (cR (cR (cR (cR (cR (cR (cR (Try.f3.body.getD .skip)))))))))))
noncomputable def c3RRRRRRRRLRL : Code := (cL (cR (cL (cR (cR (cR (cR (cR (cR (cR (cR (Try.f3.body.getD .skip))))))))))))
noncomputable def c3RRRRRRRRLRLL : Code := (cL (cL (cR (cL (cR (cR (cR (cR (cR (cR (cR (cR (Try.f3.body.getD .skip)))))))))))))
noncomputable def c3RRRRRRRRLRLLR : Code := (cR (cL (cL (cR (cL (cR (cR (cR (cR (cR (cR (cR (cR (Try.f3.body.getD .skip))))))))))))))
noncomputable def c3RRRRRRRRLRLLRR : Code := (cR (cR (cL (cL (cR (cL (cR (cR (cR (cR (cR (cR (cR (cR (Try.f3.body.getD .skip)))))))))))))))
noncomputable def o3_14 : Array Oper := rO (cR (cR (cL (cL (cR (cL (cR (cR (cR (cR (cR (cR (cR (cR (Try.f3.body.getD .skip)))))))))))))))
noncomputable def c3RRRRRRRRLRLLRL : Code := (cL (cR (cL (cL (cR (cL (cR (cR (cR (cR (cR (cR (cR (cR (Try.f3.body.getD .skip)))))))))))))))
noncomputable def c3RRRRRRRRLRLLRLL : Code := (cL (cL (cR (cL (cL (cR (cL (cR (cR (cR (cR (cR (cR (cR (cR (Try.f3.body.getD .skip))))))))))))))))
noncomputable def o3_15 : Array Oper := rO (cL (cL (cL (cR (cL (cL (cR (cL (cR (cR (cR (cR (cR (cR (cR (cR (Try.f3.body.getD .skip)))))))))))))))))
noncomputable def c3RRRRRRRRLRLLRLLR : Code := (cR (cL (cL (cR (cL (cL (cR (cL (cR (cR (cR (cR (cR (cR (cR (cR (Try.f3.body.getD .skip)))))))))))))))))
noncomputable def c3RRRRRRRRLRLLRLLRL : Code := (cL (cR (cL (cL (cR (cL (cL (cR (cL (cR (cR (cR (cR (cR (cR (cR (cR (Try.f3.body.getD .skip))))))))))))))))))
noncomputable def o3_16 : Array Oper := rO (cL (cL (cR (cL (cL (cR (cL (cL (cR (cL (cR (cR (cR (cR (cR (cR (cR (cR (Try.f3.body.getD .skip)))))))))))))))))))
noncomputable def c3RRRRRRRRLRLLL : Code := (cL (cL (cL (cR (cL (cR (cR (cR (cR (cR (cR (cR (cR (Try.f3.body.getD .skip))))))))))))))
noncomputable def o3_13 : Array Oper := rO (cL (cL (cL (cL (cR (cL (cR (cR (cR (cR (cR (cR (cR (cR (Try.f3.body.getD .skip)))))))))))))))
noncomputable def c3RRRRRRRRLRLLLR : Code := (cR (cL (cL (cL (cR (cL (cR (cR (cR (cR (cR (cR (cR (cR (Try.f3.body.getD .skip)))))))))))))))
noncomputable def c3RRRRRRRL : Code := (cL (cR (cR (cR (cR (cR (cR (cR (Try.f3.body.getD .skip)))))))))
noncomputable def o3_10 : Array Oper := rO (cL (cL (cR (cR (cR (cR (cR (cR (cR (Try.f3.body.getD .skip))))))))))
noncomputable def c3RRRRRRRLR : Code := (cR (cL (cR (cR (cR (cR (cR (cR (cR (Try.f3.body.getD .skip))))))))))
noncomputable def c3RRRRRRRLRL : Code := (cL (cR (cL (cR (cR (cR (cR (cR (cR (cR (Try.f3.body.getD .skip)))))))))))
noncomputable def o3_11 : Array Oper := rO (cL (cL (cR (cL (cR (cR (cR (cR (cR (cR (cR (Try.f3.body.getD .skip))))))))))))
noncomputable def c3RRRRRRL : Code := (cL (cR (cR (cR (cR (cR (cR (Try.f3.body.getD .skip))))))))
noncomputable def o3_8 : Array Oper := rO (cL (cL (cR (cR (cR (cR (cR (cR (Try.f3.body.getD .skip)))))))))
noncomputable def c3RRRRRRLR : Code := (cR (cL (cR (cR (cR (cR (cR (cR (Try.f3.body.getD .skip)))))))))
noncomputable def c3RRRRRRLRL : Code := (cL (cR (cL (cR (cR (cR (cR (cR (cR (Try.f3.body.getD .skip))))))))))
noncomputable def o3_9 : Array Oper := rO (cL (cL (cR (cL (cR (cR (cR (cR (cR (cR (Try.f3.body.getD .skip)))))))))))
noncomputable def c3RRRRL : Code := (cL (cR (cR (cR (cR (Try.f3.body.getD .skip))))))
noncomputable def o3_5 : Array Oper := rO (cL (cL (cR (cR (cR (cR (Try.f3.body.getD .skip)))))))
noncomputable def c3RRRRLR : Code := (cR (cL (cR (cR (cR (cR (Try.f3.body.getD .skip)))))))
noncomputable def c3RRRRLRL : Code := (cL (cR (cL (cR (cR (cR (cR (Try.f3.body.getD .skip))))))))
noncomputable def o3_6 : Array Oper := rO (cL (cL (cR (cL (cR (cR (cR (cR (Try.f3.body.getD .skip)))))))))
noncomputable def c3RL : Code := (cL (cR (Try.f3.body.getD .skip)))
noncomputable def o3_1 : Array Oper := rO (cL (cL (cR (Try.f3.body.getD .skip))))
noncomputable def c3RLR : Code := (cR (cL (cR (Try.f3.body.getD .skip))))
noncomputable def c3RLRL : Code := (cL (cR (cL (cR (Try.f3.body.getD .skip)))))
noncomputable def o3_2 : Array Oper := rO (cL (cL (cR (cL (cR (Try.f3.body.getD .skip))))))
theorem o3_0_eq (N : Sem Next → World → (Value → World → Prop) → Prop) (M : Value → (Value → Prop) → Prop) (G : Bool → ((Value → World → Prop) → Prop) → (Value → World → Prop) → World → Prop) (k : Env → World → Prop) (e : Env) (w : World) : opsW N M G 122 V3 o3_0 k o3_0.toList [] e e w =
    (M (Value.bool false) fun t8 =>
    k (Env.p e 8 t8) w) := nr (by kernel_rfl)
theorem o3_3_eq (N : Sem Next → World → (Value → World → Prop) → Prop) (M : Value → (Value → Prop) → Prop) (G : Bool → ((Value → World → Prop) → Prop) → (Value → World → Prop) → World → Prop) (k : Env → World → Prop) (e : Env) (w : World) : opsW N M G 122 V3 o3_3 k o3_3.toList [] e e w =
    (M (e 0) fun t17 =>
    N (xcall (Value.func (Fn.func 16) #[] #[]) [t17]) w fun t18 w =>
    M t18 fun t9 =>
    k (Env.p e 9 t9) w) := nr (by kernel_rfl)
theorem o3_4_eq (N : Sem Next → World → (Value → World → Prop) → Prop) (M : Value → (Value → Prop) → Prop) (G : Bool → ((Value → World → Prop) → Prop) → (Value → World → Prop) → World → Prop) (k : Env → World → Prop) (e : Env) (w : World) : opsW N M G 122 V3 o3_4 k o3_4.toList [] e e w =
    (M (e 9) fun t20 =>
    M (e 1) fun t21 =>
    N (xcall (Value.func (Fn.func 17) #[] #[]) [t20, t21]) w fun t22 w =>
    M t22 fun t19 =>
    N (xv (Instr.extract t19 0)) w fun t23 w =>
    N (xv (Instr.extract t19 1)) w fun t24 w =>
    M t23 fun t10 =>
    M t24 fun t11 =>
    k (Env.p (Env.p e 10 t10) 11 t11) w) := nr (by kernel_rfl)
theorem o3_7_eq (N : Sem Next → World → (Value → World → Prop) → Prop) (M : Value → (Value → Prop) → Prop) (G : Bool → ((Value → World → Prop) → Prop) → (Value → World → Prop) → World → Prop) (k : Env → World → Prop) (e : Env) (w : World) : opsW N M G 122 V3 o3_7 k o3_7.toList [] e e w =
    (M (e 9) fun t28 =>
    M (e 2) fun t29 =>
    M (e 3) fun t30 =>
    N (xcall (Value.func (Fn.func 18) #[] #[]) [t28, t29, t30]) w fun t31 w =>
    M t31 fun t27 =>
    N (xv (Instr.extract t27 0)) w fun t32 w =>
    N (xv (Instr.extract t27 1)) w fun t33 w =>
    N (xv (Instr.alloc 31 true (.tuple #[]))) w fun t12 w =>
    N (xu (Instr.storeAt 31 t12 t32)) w fun _ w =>
    M t33 fun t13 =>
    k (Env.p (Env.p e 12 t12) 13 t13) w) := nr (by kernel_rfl)
theorem o3_17_eq (N : Sem Next → World → (Value → World → Prop) → Prop) (M : Value → (Value → Prop) → Prop) (G : Bool → ((Value → World → Prop) → Prop) → (Value → World → Prop) → World → Prop) (k : Env → World → Prop) (e : Env) (w : World) : opsW N M G 122 V3 o3_17 k o3_17.toList [] e e w =
    (N (xv (Instr.fieldAt 31 (e 12) 3)) w fun t112 w =>
    N (xv (Instr.loadAt 2 t112)) w fun t113 w =>
    N (xv (xbin BinOp.eql 2 (Operand.tmp 113) (Operand.const (Value.int IntKind.i64 4611686018427387904)) t113 (Value.int IntKind.i64 4611686018427387904))) w fun t114 w =>
    M t114 fun t115 =>
    G (isB t115 false) (fun K => N (xv (Instr.fieldAt 31 (e 12) 3)) w K) (fun t116 w =>
    G (isB t115 false) (fun K => N (xv (Instr.loadAt 2 t116)) w K) (fun t117 w =>
    G (isB t115 false) (fun K => M (e 10) fun v => K v w) (fun t118 w =>
    G (isB t115 false) (fun K => N (builtin Builtin.len #[22] 3 ([false]).toArray ([t118]).toArray) w K) (fun t119 w =>
    G (isB t115 false) (fun K => N (xv (xbin BinOp.leq 2 (Operand.tmp 117) (Operand.tmp 119) t117 t119)) w K) (fun t120 w =>
    N (xpick t115 (Value.bool true) t120) w fun t121 w =>
    M t121 fun t8 =>
    k (Env.p e 8 t8) w) w) w) w) w) w) := nr (by kernel_rfl)
theorem c3RRRRRRRRR_s (Q : Exit → Env → World → Prop) (e : Env) (w : World) (hw : Cur w) : W Try.prog 122 V3 c3RRRRRRRRR Q e w = (opsW (nx Try.prog) mv gdP 122 V3 o3_17 (fun e w => Q .ret e w) o3_17.toList [] e e w) := by
  rw [(by kernel_rfl : c3RRRRRRRRR = .seq (.region 17 o3_17 false) Code.ret), W_seq_reg]; simp only [W_ret, W_skip, W_exit, W_label]
theorem o3_12_eq (N : Sem Next → World → (Value → World → Prop) → Prop) (M : Value → (Value → Prop) → Prop) (G : Bool → ((Value → World → Prop) → Prop) → (Value → World → Prop) → World → Prop) (k : Env → World → Prop) (e : Env) (w : World) : opsW N M G 122 V3 o3_12 k o3_12.toList [] e e w =
    (N (xv (Instr.fieldAt 31 (e 12) 2)) w fun t91 w =>
    N (xv (Instr.loadAt 2 t91)) w fun t92 w =>
    M t92 fun t14 =>
    k (Env.p e 14 t14) w) := nr (by kernel_rfl)
theorem o3_14_eq (N : Sem Next → World → (Value → World → Prop) → Prop) (M : Value → (Value → Prop) → Prop) (G : Bool → ((Value → World → Prop) → Prop) → (Value → World → Prop) → World → Prop) (k : Env → World → Prop) (e : Env) (w : World) : opsW N M G 122 V3 o3_14 k o3_14.toList [] e e w =
    (M (e 14) fun t103 =>
    N (xv (xbin BinOp.add 2 (Operand.tmp 103) (Operand.const (Value.int IntKind.i64 1)) t103 (Value.int IntKind.i64 1))) w fun t104 w =>
    M t104 fun t14 =>
    k (Env.p e 14 t14) w) := nr (by kernel_rfl)
theorem c3RRRRRRRRLRLLRR_s (Q : Exit → Env → World → Prop) (e : Env) (w : World) (hw : Cur w) : W Try.prog 122 V3 c3RRRRRRRRLRLLRR Q e w = (opsW (nx Try.prog) mv gdP 122 V3 o3_14 (fun e w => Q .normal e w) o3_14.toList [] e e w) := by
  rw [(by kernel_rfl : c3RRRRRRRRLRLLRR = (.region 14 o3_14 false)), W_reg]
theorem o3_15_eq (N : Sem Next → World → (Value → World → Prop) → Prop) (T : Sem Next → (Value → Prop) → Prop) (M : Value → (Value → Prop) → Prop) (G : Bool → ((Value → World → Prop) → Prop) → (Value → World → Prop) → World → Prop) (H : Bool → ((Value → Prop) → Prop) → (Value → Prop) → Prop) (S : World → Prop) (k : Env → World → Prop) (e : Env) (w : World) : drawGo N T M G H 122 V3 o3_15 S k o3_15.size true (Array.replicate o3_15.size false) [] e e w =
    (M (e 10) fun t105 =>
    M (e 2) fun t106 =>
    M (e 14) fun t107 =>
    T (xv (Instr.fieldAt 31 (e 12) 1)) fun t109 =>
    T (xv (Instr.loadAt 29 t109)) fun t110 =>
    N (xcall (Value.func (Fn.func 20) #[] #[]) [t105, t106, t107]) w fun t108 w =>
    S w ∧ (T (xv (xbin BinOp.neq 29 (Operand.tmp 108) (Operand.tmp 110) t108 t110)) fun t111 =>
    k (Env.p e 111 t111) w)) := nr (by kernel_rfl)
theorem o3_16_eq (N : Sem Next → World → (Value → World → Prop) → Prop) (M : Value → (Value → Prop) → Prop) (G : Bool → ((Value → World → Prop) → Prop) → (Value → World → Prop) → World → Prop) (k : Env → World → Prop) (e : Env) (w : World) : opsW N M G 122 V3 o3_16 k o3_16.toList [] e e w =
    (M (Value.bool false) fun t8 =>
    k (Env.p e 8 t8) w) := nr (by kernel_rfl)
theorem c3RRRRRRRRLRLLRLLRL_s (Q : Exit → Env → World → Prop) (e : Env) (w : World) (hw : Cur w) : W Try.prog 122 V3 c3RRRRRRRRLRLLRLLRL Q e w = (opsW (nx Try.prog) mv gdP 122 V3 o3_16 (fun e w => Q .ret e w) o3_16.toList [] e e w) := by
  rw [(by kernel_rfl : c3RRRRRRRRLRLLRLLRL = .seq (.region 16 o3_16 false) Code.ret), W_seq_reg]; simp only [W_ret, W_skip, W_exit, W_label]
theorem c3RRRRRRRRLRLLRLLR_v : opV V3 (.tmp 111) = true := by kernel_rfl
theorem c3RRRRRRRRLRLLRLLR_s (Q : Exit → Env → World → Prop) (e : Env) (w : World) (hw : Cur w) : W Try.prog 122 V3 c3RRRRRRRRLRLLRLLR Q e w = (condP (ev e (.tmp 111)) (W Try.prog 122 V3 c3RRRRRRRRLRLLRLLRL Q e w) (Q .normal e w)) := by
  rw [(by kernel_rfl : c3RRRRRRRRLRLLRLLR = .cond (.tmp 111) c3RRRRRRRRLRLLRLLRL Code.skip), W_cond, c3RRRRRRRRLRLLRLLR_v, cond_true]; simp only [W_ret, W_skip, W_exit, W_label]
theorem c3RRRRRRRRLRLLRLL_s (Q : Exit → Env → World → Prop) (e : Env) (w : World) (hw : Cur w) : W Try.prog 122 V3 c3RRRRRRRRLRLLRLL Q e w = (∃ S : World → Prop, S w.drew ∧ drawGo (nx Try.prog) (takeP Try.prog S) mv gdP gdT 122 V3 o3_15 S (fun e w => W Try.prog 122 V3 c3RRRRRRRRLRLLRLLR Q e w) o3_15.size true (Array.replicate o3_15.size false) [] e e w.drew) := by
  rw [(by kernel_rfl : c3RRRRRRRRLRLLRLL = .seq (.region 15 o3_15 true) c3RRRRRRRRLRLLRLLR), W_seq_regD]
theorem c3RRRRRRRRLRLLRL_s (Q : Exit → Env → World → Prop) (e : Env) (w : World) (hw : Cur w) : W Try.prog 122 V3 c3RRRRRRRRLRLLRL Q e w = (W Try.prog 122 V3 c3RRRRRRRRLRLLRLL (blockQ 1 Q) e w) := by
  rw [(by kernel_rfl : c3RRRRRRRRLRLLRL = .block 1 c3RRRRRRRRLRLLRLL), W_block]
theorem c3RRRRRRRRLRLLR_s (Q : Exit → Env → World → Prop) (e : Env) (w : World) (hw : Cur w) : W Try.prog 122 V3 c3RRRRRRRRLRLLR Q e w = (W Try.prog 122 V3 c3RRRRRRRRLRLLRL (seqQ (fun e w => W Try.prog 122 V3 c3RRRRRRRRLRLLRR Q e w) Q) e w) := by
  rw [(by kernel_rfl : c3RRRRRRRRLRLLR = .seq c3RRRRRRRRLRLLRL c3RRRRRRRRLRLLRR), W_seq]
theorem o3_13_eq (N : Sem Next → World → (Value → World → Prop) → Prop) (M : Value → (Value → Prop) → Prop) (G : Bool → ((Value → World → Prop) → Prop) → (Value → World → Prop) → World → Prop) (k : Env → World → Prop) (e : Env) (w : World) : opsW N M G 122 V3 o3_13 k o3_13.toList [] e e w =
    (M (e 14) fun t93 =>
    N (xv (Instr.fieldAt 31 (e 12) 3)) w fun t94 w =>
    N (xv (Instr.loadAt 2 t94)) w fun t95 w =>
    N (xv (xbin BinOp.lss 2 (Operand.tmp 93) (Operand.tmp 95) t93 t95)) w fun t96 w =>
    M t96 fun t97 =>
    G (isB t97 true) (fun K => M (e 14) fun v => K v w) (fun t98 w =>
    G (isB t97 true) (fun K => M (e 10) fun v => K v w) (fun t99 w =>
    G (isB t97 true) (fun K => N (builtin Builtin.len #[22] 3 ([false]).toArray ([t99]).toArray) w K) (fun t100 w =>
    G (isB t97 true) (fun K => N (xv (xbin BinOp.leq 2 (Operand.tmp 98) (Operand.tmp 100) t98 t100)) w K) (fun t101 w =>
    N (xpick t97 t101 (Value.bool false)) w fun t102 w =>
    k (Env.p e 102 t102) w) w) w) w) w) := nr (by kernel_rfl)
theorem c3RRRRRRRRLRLLLR_v : opV V3 (.tmp 102) = true := by kernel_rfl
theorem c3RRRRRRRRLRLLLR_s (Q : Exit → Env → World → Prop) (e : Env) (w : World) (hw : Cur w) : W Try.prog 122 V3 c3RRRRRRRRLRLLLR Q e w = (condP (ev e (.tmp 102)) (Q .normal e w) (Q (.exit 0) e w)) := by
  rw [(by kernel_rfl : c3RRRRRRRRLRLLLR = .cond (.tmp 102) Code.skip (Code.exit 0)), W_cond, c3RRRRRRRRLRLLLR_v, cond_true]; simp only [W_ret, W_skip, W_exit, W_label]
theorem c3RRRRRRRRLRLLL_s (Q : Exit → Env → World → Prop) (e : Env) (w : World) (hw : Cur w) : W Try.prog 122 V3 c3RRRRRRRRLRLLL Q e w = (opsW (nx Try.prog) mv gdP 122 V3 o3_13 (fun e w => W Try.prog 122 V3 c3RRRRRRRRLRLLLR Q e w) o3_13.toList [] e e w) := by
  rw [(by kernel_rfl : c3RRRRRRRRLRLLL = .seq (.region 13 o3_13 false) c3RRRRRRRRLRLLLR), W_seq_reg]
theorem c3RRRRRRRRLRLL_s (Q : Exit → Env → World → Prop) (e : Env) (w : World) (hw : Cur w) : W Try.prog 122 V3 c3RRRRRRRRLRLL Q e w = (W Try.prog 122 V3 c3RRRRRRRRLRLLL (seqQ (fun e w => W Try.prog 122 V3 c3RRRRRRRRLRLLR Q e w) Q) e w) := by
  rw [(by kernel_rfl : c3RRRRRRRRLRLL = .seq c3RRRRRRRRLRLLL c3RRRRRRRRLRLLR), W_seq]
theorem c3RRRRRRRRLRL_s (Q : Exit → Env → World → Prop) (e : Env) (w : World) (hw : Cur w) : W Try.prog 122 V3 c3RRRRRRRRLRL Q e w = (LoopP (fun e w k => W Try.prog 122 V3 c3RRRRRRRRLRLL (seqQ k Q) e w) e w) := by
  rw [(by kernel_rfl : c3RRRRRRRRLRL = .loop c3RRRRRRRRLRLL), W_loop]
theorem c3RRRRRRRRLR_s (Q : Exit → Env → World → Prop) (e : Env) (w : World) (hw : Cur w) : W Try.prog 122 V3 c3RRRRRRRRLR Q e w = (W Try.prog 122 V3 c3RRRRRRRRLRL (blockQ 0 Q) e w) := by
  rw [(by kernel_rfl : c3RRRRRRRRLR = .block 0 c3RRRRRRRRLRL), W_block]
theorem c3RRRRRRRRL_s (Q : Exit → Env → World → Prop) (e : Env) (w : World) (hw : Cur w) : W Try.prog 122 V3 c3RRRRRRRRL Q e w = (opsW (nx Try.prog) mv gdP 122 V3 o3_12 (fun e w => W Try.prog 122 V3 c3RRRRRRRRLR Q e w) o3_12.toList [] e e w) := by
  rw [(by kernel_rfl : c3RRRRRRRRL = .seq (.region 12 o3_12 false) c3RRRRRRRRLR), W_seq_reg]
theorem c3RRRRRRRR_s (Q : Exit → Env → World → Prop) (e : Env) (w : World) (hw : Cur w) : W Try.prog 122 V3 c3RRRRRRRR Q e w = (W Try.prog 122 V3 c3RRRRRRRRL (seqQ (fun e w => W Try.prog 122 V3 c3RRRRRRRRR Q e w) Q) e w) := by
  rw [(by kernel_rfl : c3RRRRRRRR = .seq c3RRRRRRRRL c3RRRRRRRRR), W_seq]
theorem o3_10_eq (N : Sem Next → World → (Value → World → Prop) → Prop) (M : Value → (Value → Prop) → Prop) (G : Bool → ((Value → World → Prop) → Prop) → (Value → World → Prop) → World → Prop) (k : Env → World → Prop) (e : Env) (w : World) : opsW N M G 122 V3 o3_10 k o3_10.toList [] e e w =
    (N (xv (Instr.fieldAt 31 (e 12) 0)) w fun t70 w =>
    N (xv (Instr.loadAt 9 t70)) w fun t71 w =>
    M (e 2) fun t72 =>
    N (xv (xbin BinOp.neq 9 (Operand.tmp 71) (Operand.tmp 72) t71 t72)) w fun t73 w =>
    M t73 fun t74 =>
    G (isB t74 false) (fun K => N (xv (Instr.fieldAt 31 (e 12) 2)) w K) (fun t75 w =>
    G (isB t74 false) (fun K => N (xv (Instr.loadAt 2 t75)) w K) (fun t76 w =>
    G (isB t74 false) (fun K => N (xv (xbin BinOp.lss 2 (Operand.tmp 76) (Operand.const (Value.int IntKind.i64 0)) t76 (Value.int IntKind.i64 0))) w K) (fun t77 w =>
    N (xpick t74 (Value.bool true) t77) w fun t78 w =>
    M t78 fun t79 =>
    G (isB t79 false) (fun K => N (xv (Instr.fieldAt 31 (e 12) 2)) w K) (fun t80 w =>
    G (isB t79 false) (fun K => N (xv (Instr.loadAt 2 t80)) w K) (fun t81 w =>
    G (isB t79 false) (fun K => M (e 3) fun v => K v w) (fun t82 w =>
    G (isB t79 false) (fun K => N (xv (xbin BinOp.gtr 2 (Operand.tmp 81) (Operand.tmp 82) t81 t82)) w K) (fun t83 w =>
    N (xpick t79 (Value.bool true) t83) w fun t84 w =>
    M t84 fun t85 =>
    G (isB t85 false) (fun K => N (xv (Instr.fieldAt 31 (e 12) 3)) w K) (fun t86 w =>
    G (isB t85 false) (fun K => N (xv (Instr.loadAt 2 t86)) w K) (fun t87 w =>
    G (isB t85 false) (fun K => M (e 3) fun v => K v w) (fun t88 w =>
    G (isB t85 false) (fun K => N (xv (xbin BinOp.leq 2 (Operand.tmp 87) (Operand.tmp 88) t87 t88)) w K) (fun t89 w =>
    N (xpick t85 (Value.bool true) t89) w fun t90 w =>
    k (Env.p e 90 t90) w) w) w) w) w) w) w) w) w) w) w) w) := nr (by kernel_rfl)
theorem o3_11_eq (N : Sem Next → World → (Value → World → Prop) → Prop) (M : Value → (Value → Prop) → Prop) (G : Bool → ((Value → World → Prop) → Prop) → (Value → World → Prop) → World → Prop) (k : Env → World → Prop) (e : Env) (w : World) : opsW N M G 122 V3 o3_11 k o3_11.toList [] e e w =
    (M (Value.bool false) fun t8 =>
    k (Env.p e 8 t8) w) := nr (by kernel_rfl)
theorem c3RRRRRRRLRL_s (Q : Exit → Env → World → Prop) (e : Env) (w : World) (hw : Cur w) : W Try.prog 122 V3 c3RRRRRRRLRL Q e w = (opsW (nx Try.prog) mv gdP 122 V3 o3_11 (fun e w => Q .ret e w) o3_11.toList [] e e w) := by
  rw [(by kernel_rfl : c3RRRRRRRLRL = .seq (.region 11 o3_11 false) Code.ret), W_seq_reg]; simp only [W_ret, W_skip, W_exit, W_label]
theorem c3RRRRRRRLR_v : opV V3 (.tmp 90) = true := by kernel_rfl
theorem c3RRRRRRRLR_s (Q : Exit → Env → World → Prop) (e : Env) (w : World) (hw : Cur w) : W Try.prog 122 V3 c3RRRRRRRLR Q e w = (condP (ev e (.tmp 90)) (W Try.prog 122 V3 c3RRRRRRRLRL Q e w) (Q .normal e w)) := by
  rw [(by kernel_rfl : c3RRRRRRRLR = .cond (.tmp 90) c3RRRRRRRLRL Code.skip), W_cond, c3RRRRRRRLR_v, cond_true]; simp only [W_ret, W_skip, W_exit, W_label]
theorem c3RRRRRRRL_s (Q : Exit → Env → World → Prop) (e : Env) (w : World) (hw : Cur w) : W Try.prog 122 V3 c3RRRRRRRL Q e w = (opsW (nx Try.prog) mv gdP 122 V3 o3_10 (fun e w => W Try.prog 122 V3 c3RRRRRRRLR Q e w) o3_10.toList [] e e w) := by
  rw [(by kernel_rfl : c3RRRRRRRL = .seq (.region 10 o3_10 false) c3RRRRRRRLR), W_seq_reg]
theorem c3RRRRRRR_s (Q : Exit → Env → World → Prop) (e : Env) (w : World) (hw : Cur w) : W Try.prog 122 V3 c3RRRRRRR Q e w = (W Try.prog 122 V3 c3RRRRRRRL (seqQ (fun e w => W Try.prog 122 V3 c3RRRRRRRR Q e w) Q) e w) := by
  rw [(by kernel_rfl : c3RRRRRRR = .seq c3RRRRRRRL c3RRRRRRRR), W_seq]
theorem o3_8_eq (N : Sem Next → World → (Value → World → Prop) → Prop) (M : Value → (Value → Prop) → Prop) (G : Bool → ((Value → World → Prop) → Prop) → (Value → World → Prop) → World → Prop) (k : Env → World → Prop) (e : Env) (w : World) : opsW N M G 122 V3 o3_8 k o3_8.toList [] e e w =
    (M (e 13) fun t34 =>
    N (xv (xbin BinOp.neq 32 (Operand.tmp 34) (Operand.const (Value.int IntKind.i64 0)) t34 (Value.int IntKind.i64 0))) w fun t35 w =>
    k (Env.p e 35 t35) w) := nr (by kernel_rfl)
theorem o3_9_eq (N : Sem Next → World → (Value → World → Prop) → Prop) (M : Value → (Value → Prop) → Prop) (G : Bool → ((Value → World → Prop) → Prop) → (Value → World → Prop) → World → Prop) (k : Env → World → Prop) (e : Env) (w : World) : opsW N M G 122 V3 o3_9 k o3_9.toList [] e e w =
    (N (xv (Instr.loadAt 31 (e 12))) w fun t36 w =>
    N (xv (Instr.build 31 ([]).toArray)) w fun t37 w =>
    N (xv (xbin BinOp.eql 31 (Operand.tmp 36) (Operand.tmp 37) t36 t37)) w fun t38 w =>
    M t38 fun t39 =>
    G (isB t39 true) (fun K => M (e 3) fun v => K v w) (fun t40 w =>
    G (isB t39 true) (fun K => N (xv (xbin BinOp.lss 2 (Operand.tmp 40) (Operand.const (Value.int IntKind.i64 0)) t40 (Value.int IntKind.i64 0))) w K) (fun t41 w =>
    G (isB t39 true) (fun K => M t41 fun v => K v w) (fun t42 w =>
    G (isB t42 false) (fun K => M (e 3) fun v => K v w) (fun t43 w =>
    G (isB t42 false) (fun K => M (e 10) fun v => K v w) (fun t44 w =>
    G (isB t42 false) (fun K => N (builtin Builtin.len #[22] 3 ([false]).toArray ([t44]).toArray) w K) (fun t45 w =>
    G (isB t42 false) (fun K => N (xv (xbin BinOp.gtr 2 (Operand.tmp 43) (Operand.tmp 45) t43 t45)) w K) (fun t46 w =>
    G (isB t39 true) (fun K => N (xpick t42 (Value.bool true) t46) w K) (fun t47 w =>
    G (isB t39 true) (fun K => M t47 fun v => K v w) (fun t48 w =>
    G (isB t48 false) (fun K => M (e 2) fun v => K v w) (fun t49 w =>
    G (isB t48 false) (fun K => N (builtin Builtin.len #[9] 3 ([false]).toArray ([t49]).toArray) w K) (fun t50 w =>
    G (isB t48 false) (fun K => N (xv (xbin BinOp.lss 3 (Operand.tmp 50) (Operand.const (Value.int IntKind.i64 1)) t50 (Value.int IntKind.i64 1))) w K) (fun t51 w =>
    G (isB t39 true) (fun K => N (xpick t48 (Value.bool true) t51) w K) (fun t52 w =>
    G (isB t39 true) (fun K => M t52 fun v => K v w) (fun t53 w =>
    G (isB t53 false) (fun K => M (e 2) fun v => K v w) (fun t54 w =>
    G (isB t53 false) (fun K => N (builtin Builtin.len #[9] 3 ([false]).toArray ([t54]).toArray) w K) (fun t55 w =>
    G (isB t53 false) (fun K => N (xv (xbin BinOp.gtr 3 (Operand.tmp 55) (Operand.const (Value.int IntKind.i64 32)) t55 (Value.int IntKind.i64 32))) w K) (fun t56 w =>
    G (isB t39 true) (fun K => N (xpick t53 (Value.bool true) t56) w K) (fun t57 w =>
    G (isB t39 true) (fun K => M t57 fun v => K v w) (fun t58 w =>
    G (isB t58 false) (fun K => M (e 13) fun v => K v w) (fun t59 w =>
    G (isB t58 false) (fun K => N (xv (xbin BinOp.eql 3 (Operand.tmp 59) (Operand.const (Value.int IntKind.i64 20)) t59 (Value.int IntKind.i64 20))) w K) (fun t60 w =>
    G (isB t58 false) (fun K => M t60 fun v => K v w) (fun t61 w =>
    G (isB t61 true) (fun K => M (e 9) fun v => K v w) (fun t62 w =>
    G (isB t61 true) (fun K => M (e 2) fun v => K v w) (fun t63 w =>
    G (isB t61 true) (fun K => N (xcall (Value.func (Fn.func 19) #[] #[]) [t62, t63]) w K) (fun t64 w =>
    G (isB t61 true) (fun K => M (e 3) fun v => K v w) (fun t65 w =>
    G (isB t61 true) (fun K => N (xv (xbin BinOp.gtr 2 (Operand.tmp 64) (Operand.tmp 65) t64 t65)) w K) (fun t66 w =>
    G (isB t58 false) (fun K => N (xpick t61 t66 (Value.bool false)) w K) (fun t67 w =>
    G (isB t39 true) (fun K => N (xpick t58 (Value.bool true) t67) w K) (fun t68 w =>
    N (xpick t39 t68 (Value.bool false)) w fun t69 w =>
    M t69 fun t8 =>
    k (Env.p e 8 t8) w) w) w) w) w) w) w) w) w) w) w) w) w) w) w) w) w) w) w) w) w) w) w) w) w) w) w) w) w) w) := nr (by kernel_rfl)
theorem c3RRRRRRLRL_s (Q : Exit → Env → World → Prop) (e : Env) (w : World) (hw : Cur w) : W Try.prog 122 V3 c3RRRRRRLRL Q e w = (opsW (nx Try.prog) mv gdP 122 V3 o3_9 (fun e w => Q .ret e w) o3_9.toList [] e e w) := by
  rw [(by kernel_rfl : c3RRRRRRLRL = .seq (.region 9 o3_9 false) Code.ret), W_seq_reg]; simp only [W_ret, W_skip, W_exit, W_label]
theorem c3RRRRRRLR_v : opV V3 (.tmp 35) = true := by kernel_rfl
theorem c3RRRRRRLR_s (Q : Exit → Env → World → Prop) (e : Env) (w : World) (hw : Cur w) : W Try.prog 122 V3 c3RRRRRRLR Q e w = (condP (ev e (.tmp 35)) (W Try.prog 122 V3 c3RRRRRRLRL Q e w) (Q .normal e w)) := by
  rw [(by kernel_rfl : c3RRRRRRLR = .cond (.tmp 35) c3RRRRRRLRL Code.skip), W_cond, c3RRRRRRLR_v, cond_true]; simp only [W_ret, W_skip, W_exit, W_label]
theorem c3RRRRRRL_s (Q : Exit → Env → World → Prop) (e : Env) (w : World) (hw : Cur w) : W Try.prog 122 V3 c3RRRRRRL Q e w = (opsW (nx Try.prog) mv gdP 122 V3 o3_8 (fun e w => W Try.prog 122 V3 c3RRRRRRLR Q e w) o3_8.toList [] e e w) := by
  rw [(by kernel_rfl : c3RRRRRRL = .seq (.region 8 o3_8 false) c3RRRRRRLR), W_seq_reg]
theorem c3RRRRRR_s (Q : Exit → Env → World → Prop) (e : Env) (w : World) (hw : Cur w) : W Try.prog 122 V3 c3RRRRRR Q e w = (W Try.prog 122 V3 c3RRRRRRL (seqQ (fun e w => W Try.prog 122 V3 c3RRRRRRR Q e w) Q) e w) := by
  rw [(by kernel_rfl : c3RRRRRR = .seq c3RRRRRRL c3RRRRRRR), W_seq]
theorem c3RRRRR_s (Q : Exit → Env → World → Prop) (e : Env) (w : World) (hw : Cur w) : W Try.prog 122 V3 c3RRRRR Q e w = (opsW (nx Try.prog) mv gdP 122 V3 o3_7 (fun e w => W Try.prog 122 V3 c3RRRRRR Q e w) o3_7.toList [] e e w) := by
  rw [(by kernel_rfl : c3RRRRR = .seq (.region 7 o3_7 false) c3RRRRRR), W_seq_reg]
theorem o3_5_eq (N : Sem Next → World → (Value → World → Prop) → Prop) (M : Value → (Value → Prop) → Prop) (G : Bool → ((Value → World → Prop) → Prop) → (Value → World → Prop) → World → Prop) (k : Env → World → Prop) (e : Env) (w : World) : opsW N M G 122 V3 o3_5 k o3_5.toList [] e e w =
    (M (e 11) fun t25 =>
    N (xv (Op.unary UnOp.not t25)) w fun t26 w =>
    k (Env.p e 26 t26) w) := nr (by kernel_rfl)
theorem o3_6_eq (N : Sem Next → World → (Value → World → Prop) → Prop) (M : Value → (Value → Prop) → Prop) (G : Bool → ((Value → World → Prop) → Prop) → (Value → World → Prop) → World → Prop) (k : Env → World → Prop) (e : Env) (w : World) : opsW N M G 122 V3 o3_6 k o3_6.toList [] e e w =
    (M (Value.bool false) fun t8 =>
    k (Env.p e 8 t8) w) := nr (by kernel_rfl)
theorem c3RRRRLRL_s (Q : Exit → Env → World → Prop) (e : Env) (w : World) (hw : Cur w) : W Try.prog 122 V3 c3RRRRLRL Q e w = (opsW (nx Try.prog) mv gdP 122 V3 o3_6 (fun e w => Q .ret e w) o3_6.toList [] e e w) := by
  rw [(by kernel_rfl : c3RRRRLRL = .seq (.region 6 o3_6 false) Code.ret), W_seq_reg]; simp only [W_ret, W_skip, W_exit, W_label]
theorem c3RRRRLR_v : opV V3 (.tmp 26) = true := by kernel_rfl
theorem c3RRRRLR_s (Q : Exit → Env → World → Prop) (e : Env) (w : World) (hw : Cur w) : W Try.prog 122 V3 c3RRRRLR Q e w = (condP (ev e (.tmp 26)) (W Try.prog 122 V3 c3RRRRLRL Q e w) (Q .normal e w)) := by
  rw [(by kernel_rfl : c3RRRRLR = .cond (.tmp 26) c3RRRRLRL Code.skip), W_cond, c3RRRRLR_v, cond_true]; simp only [W_ret, W_skip, W_exit, W_label]
theorem c3RRRRL_s (Q : Exit → Env → World → Prop) (e : Env) (w : World) (hw : Cur w) : W Try.prog 122 V3 c3RRRRL Q e w = (opsW (nx Try.prog) mv gdP 122 V3 o3_5 (fun e w => W Try.prog 122 V3 c3RRRRLR Q e w) o3_5.toList [] e e w) := by
  rw [(by kernel_rfl : c3RRRRL = .seq (.region 5 o3_5 false) c3RRRRLR), W_seq_reg]
theorem c3RRRR_s (Q : Exit → Env → World → Prop) (e : Env) (w : World) (hw : Cur w) : W Try.prog 122 V3 c3RRRR Q e w = (W Try.prog 122 V3 c3RRRRL (seqQ (fun e w => W Try.prog 122 V3 c3RRRRR Q e w) Q) e w) := by
  rw [(by kernel_rfl : c3RRRR = .seq c3RRRRL c3RRRRR), W_seq]
theorem c3RRR_s (Q : Exit → Env → World → Prop) (e : Env) (w : World) (hw : Cur w) : W Try.prog 122 V3 c3RRR Q e w = (opsW (nx Try.prog) mv gdP 122 V3 o3_4 (fun e w => W Try.prog 122 V3 c3RRRR Q e w) o3_4.toList [] e e w) := by
  rw [(by kernel_rfl : c3RRR = .seq (.region 4 o3_4 false) c3RRRR), W_seq_reg]
theorem c3RR_s (Q : Exit → Env → World → Prop) (e : Env) (w : World) (hw : Cur w) : W Try.prog 122 V3 c3RR Q e w = (opsW (nx Try.prog) mv gdP 122 V3 o3_3 (fun e w => W Try.prog 122 V3 c3RRR Q e w) o3_3.toList [] e e w) := by
  rw [(by kernel_rfl : c3RR = .seq (.region 3 o3_3 false) c3RRR), W_seq_reg]
theorem o3_1_eq (N : Sem Next → World → (Value → World → Prop) → Prop) (M : Value → (Value → Prop) → Prop) (G : Bool → ((Value → World → Prop) → Prop) → (Value → World → Prop) → World → Prop) (k : Env → World → Prop) (e : Env) (w : World) : opsW N M G 122 V3 o3_1 k o3_1.toList [] e e w =
    (N (xcall (Value.func (Fn.func 15) #[] #[]) []) w fun t15 w =>
    N (xv (Op.unary UnOp.not t15)) w fun t16 w =>
    k (Env.p e 16 t16) w) := nr (by kernel_rfl)
theorem o3_2_eq (N : Sem Next → World → (Value → World → Prop) → Prop) (M : Value → (Value → Prop) → Prop) (G : Bool → ((Value → World → Prop) → Prop) → (Value → World → Prop) → World → Prop) (k : Env → World → Prop) (e : Env) (w : World) : opsW N M G 122 V3 o3_2 k o3_2.toList [] e e w =
    (M (Value.bool false) fun t8 =>
    k (Env.p e 8 t8) w) := nr (by kernel_rfl)
theorem c3RLRL_s (Q : Exit → Env → World → Prop) (e : Env) (w : World) (hw : Cur w) : W Try.prog 122 V3 c3RLRL Q e w = (opsW (nx Try.prog) mv gdP 122 V3 o3_2 (fun e w => Q .ret e w) o3_2.toList [] e e w) := by
  rw [(by kernel_rfl : c3RLRL = .seq (.region 2 o3_2 false) Code.ret), W_seq_reg]; simp only [W_ret, W_skip, W_exit, W_label]
theorem c3RLR_v : opV V3 (.tmp 16) = true := by kernel_rfl
theorem c3RLR_s (Q : Exit → Env → World → Prop) (e : Env) (w : World) (hw : Cur w) : W Try.prog 122 V3 c3RLR Q e w = (condP (ev e (.tmp 16)) (W Try.prog 122 V3 c3RLRL Q e w) (Q .normal e w)) := by
  rw [(by kernel_rfl : c3RLR = .cond (.tmp 16) c3RLRL Code.skip), W_cond, c3RLR_v, cond_true]; simp only [W_ret, W_skip, W_exit, W_label]
theorem c3RL_s (Q : Exit → Env → World → Prop) (e : Env) (w : World) (hw : Cur w) : W Try.prog 122 V3 c3RL Q e w = (opsW (nx Try.prog) mv gdP 122 V3 o3_1 (fun e w => W Try.prog 122 V3 c3RLR Q e w) o3_1.toList [] e e w) := by
  rw [(by kernel_rfl : c3RL = .seq (.region 1 o3_1 false) c3RLR), W_seq_reg]
theorem c3R_s (Q : Exit → Env → World → Prop) (e : Env) (w : World) (hw : Cur w) : W Try.prog 122 V3 c3R Q e w = (W Try.prog 122 V3 c3RL (seqQ (fun e w => W Try.prog 122 V3 c3RR Q e w) Q) e w) := by
  rw [(by kernel_rfl : c3R = .seq c3RL c3RR), W_seq]
theorem c3_s (Q : Exit → Env → World → Prop) (e : Env) (w : World) (hw : Cur w) : W Try.prog 122 V3 c3 Q e w = (opsW (nx Try.prog) mv gdP 122 V3 o3_0 (fun e w => W Try.prog 122 V3 c3R Q e w) o3_0.toList [] e e w) := by
  rw [(by kernel_rfl : c3 = .seq (.region 0 o3_0 false) c3R), W_seq_reg]
theorem call3 {a0 a1 a2 a3 : Value} {w : World} {R : Value → World → Prop} (h : W Try.prog 122 V3 c3 (retQ Try.prog [.tmp 8] R) (argE [a0, a1, a2, a3]) w) : CallsN Try.prog 3 [a0, a1, a2, a3] w R :=
  callsN_of_W (c := c3) (rs := [.tmp 8]) V3 Try.ntmps3 (by rw [Try.results3]) mixed Try.func3 (by kernel_rfl) (by kernel_rfl) (by kernel_rfl) (by kernel_rfl) (by simp) h
-- K3: ↓o3_0_eq, ↓o3_3_eq, ↓o3_4_eq, ↓o3_7_eq, ↓o3_17_eq, ↓c3RRRRRRRRR_s, ↓o3_12_eq, ↓o3_14_eq, ↓c3RRRRRRRRLRLLRR_s, ↓o3_15_eq, ↓o3_16_eq, ↓c3RRRRRRRRLRLLRLLRL_s, ↓c3RRRRRRRRLRLLRLLR_s, ↓c3RRRRRRRRLRLLRLL_s, ↓c3RRRRRRRRLRLLRL_s, ↓c3RRRRRRRRLRLLR_s, ↓o3_13_eq, ↓c3RRRRRRRRLRLLLR_s, ↓c3RRRRRRRRLRLLL_s, ↓c3RRRRRRRRLRLL_s, ↓c3RRRRRRRRLRL_s, ↓c3RRRRRRRRLR_s, ↓c3RRRRRRRRL_s, ↓c3RRRRRRRR_s, ↓o3_10_eq, ↓o3_11_eq, ↓c3RRRRRRRLRL_s, ↓c3RRRRRRRLR_s, ↓c3RRRRRRRL_s, ↓c3RRRRRRR_s, ↓o3_8_eq, ↓o3_9_eq, ↓c3RRRRRRLRL_s, ↓c3RRRRRRLR_s, ↓c3RRRRRRL_s, ↓c3RRRRRR_s, ↓c3RRRRR_s, ↓o3_5_eq, ↓o3_6_eq, ↓c3RRRRLRL_s, ↓c3RRRRLR_s, ↓c3RRRRL_s, ↓c3RRRR_s, ↓c3RRR_s, ↓c3RR_s, ↓o3_1_eq, ↓o3_2_eq, ↓c3RLRL_s, ↓c3RLR_s, ↓c3RL_s, ↓c3R_s, ↓c3_s
end
end Go.Proofs.Ytenokheiindfkaa
