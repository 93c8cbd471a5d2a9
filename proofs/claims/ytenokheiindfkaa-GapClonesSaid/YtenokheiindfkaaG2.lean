/- The equations of the code of some functions, written by the printer gen.py: each is checked by the kernel. -/
import Derived.Test.YtenokheiindfkaaQ0
set_option linter.unusedVariables false
set_option linter.unusedSimpArgs false
set_option maxRecDepth 100000
namespace Go.Proofs.Ytenokheiindfkaa
open Go.VW
noncomputable section
set_option linter.defProp false
variable {N : Sem Next → World → (Value → World → Prop) → Prop} {T : Sem Next → (Value → Prop) → Prop} {M : Value → (Value → Prop) → Prop} {G : Bool → ((Value → World → Prop) → Prop) → (Value → World → Prop) → World → Prop}
  {H : Bool → ((Value → Prop) → Prop) → (Value → Prop) → Prop} {S : World → Prop} {k : Env → World → Prop} {Q : Exit → Env → World → Prop} {e : Env} {w : World}
/-! ### vouch/gap.New[vouch/api.Record] -/
def V26 : Nat → Bool := fun i => [0, 1, 4, 5].elem i
noncomputable def c26 : Code := (Try.f26.body.getD .skip)
noncomputable def o26_0 : Array Oper := rO (cL c26)
noncomputable def c26_1 : Code := (cR c26)
noncomputable def o26_1 : Array Oper := rO (cL c26_1)
noncomputable def c26_2 : Code := (cR c26_1)
noncomputable def o26_2 : Array Oper := rO (cL c26_2)
noncomputable def c26_3 : Code := (cR c26_2)
noncomputable def o26_3 : Array Oper := rO (cL c26_3)
theorem o26_0_eq : opsW N M G 15 V26 o26_0 k o26_0.toList [] e e w =
    (M (Value.pointer none) fun t4 =>
    k (Env.p e 4 t4) w) := nr (by kernel_rfl)
theorem o26_1_eq : opsW N M G 15 V26 o26_1 k o26_1.toList [] e e w =
    (M (e 1) fun t6 =>
    N (builtin Builtin.max #[3, 3] 3 ([false, true]).toArray ([t6, (Value.int IntKind.i64 0)]).toArray) w fun t7 w =>
    N (builtin Builtin.min #[3, 3] 3 ([false, true]).toArray ([t7, (Value.int IntKind.i64 256)]).toArray) w fun t8 w =>
    N (xv (Instr.build 125 ([(1, t8)]).toArray)) w fun t9 w =>
    N (xv (Instr.box 125 t9)) w fun t10 w =>
    M t10 fun t5 =>
    k (Env.p e 5 t5) w) := nr (by kernel_rfl)
theorem o26_2_eq : opsW N M G 15 V26 o26_2 k o26_2.toList [] e e w =
    (M (e 5) fun t11 =>
    M (e 0) fun t12 =>
    N (xcall (Value.func (Fn.func 62) #[] #[]) [t11, t12]) w fun t13 w =>
    k e w) := nr (by kernel_rfl)
theorem o26_3_eq : opsW N M G 15 V26 o26_3 k o26_3.toList [] e e w =
    (M (e 5) fun t14 =>
    M t14 fun t4 =>
    k (Env.p e 4 t4) w) := nr (by kernel_rfl)
theorem c26_3_s (hw : Cur w) : W Try.prog 15 V26 c26_3 Q e w = (opsW (nx Try.prog) mv gdP 15 V26 o26_3 (fun e w => Q .ret e w) o26_3.toList [] e e w) := by rw [(by kernel_rfl : c26_3 = .seq (.region 3 o26_3 false) Code.ret), W_seq_reg]; simp only [W_ret, W_skip, W_exit, W_label]
theorem c26_2_s (hw : Cur w) : W Try.prog 15 V26 c26_2 Q e w = (opsW (nx Try.prog) mv gdP 15 V26 o26_2 (fun e w => W Try.prog 15 V26 c26_3 Q e w) o26_2.toList [] e e w) := by rw [(by kernel_rfl : c26_2 = .seq (.region 2 o26_2 false) c26_3), W_seq_reg]
theorem c26_1_s (hw : Cur w) : W Try.prog 15 V26 c26_1 Q e w = (opsW (nx Try.prog) mv gdP 15 V26 o26_1 (fun e w => W Try.prog 15 V26 c26_2 Q e w) o26_1.toList [] e e w) := by rw [(by kernel_rfl : c26_1 = .seq (.region 1 o26_1 false) c26_2), W_seq_reg]
theorem c26_s (hw : Cur w) : W Try.prog 15 V26 c26 Q e w = (opsW (nx Try.prog) mv gdP 15 V26 o26_0 (fun e w => W Try.prog 15 V26 c26_1 Q e w) o26_0.toList [] e e w) := by rw [(by kernel_rfl : c26 = .seq (.region 0 o26_0 false) c26_1), W_seq_reg]
theorem call26 {a0 a1 : Value} {w : World} {R : Value → World → Prop} (h : W Try.prog 15 V26 c26 (retQ Try.prog [.tmp 4] R) (argE [a0, a1]) w) : CallsN Try.prog 26 [a0, a1] w R :=
  callsN_of_W (c := c26) (rs := [.tmp 4]) V26 Try.ntmps26 (by rw [Try.results26]) mixed Try.func26 (by kernel_rfl) (by kernel_rfl) (by kernel_rfl) (by kernel_rfl) (by simp) h
noncomputable def hk26 := And.intro (@o26_0_eq) <| And.intro (@o26_1_eq) <| And.intro (@o26_2_eq) <| And.intro (@o26_3_eq) <| And.intro (@c26_3_s) <| And.intro (@c26_2_s) <| And.intro (@c26_1_s) <| @c26_s
-- K26: ↓hk26
/-! ### (*vouch/gap.Gap[vouch/api.Record]) . At -/
def V29 : Nat → Bool := fun i => [0, 2, 4].elem i
noncomputable def c29 : Code := (Try.f29.body.getD .skip)
noncomputable def o29_0 : Array Oper := rO (cL c29)
noncomputable def c29_1 : Code := (cR c29)
noncomputable def c29_2 : Code := (cR c29_1)
noncomputable def o29_3 : Array Oper := rO (cL c29_2)
noncomputable def c29_3 : Code := (cL c29_1)
noncomputable def o29_1 : Array Oper := rO (cL c29_3)
noncomputable def c29_4 : Code := (cR c29_3)
noncomputable def c29_5 : Code := (cL c29_4)
noncomputable def o29_2 : Array Oper := rO (cL c29_5)
theorem o29_0_eq : opsW N M G 9 V29 o29_0 k o29_0.toList [] e e w =
    (M (Value.int IntKind.i64 0) fun t2 =>
    k (Env.p e 2 t2) w) := nr (by kernel_rfl)
theorem o29_3_eq : opsW N M G 9 V29 o29_3 k o29_3.toList [] e e w =
    (M (e 0) fun t5 =>
    N (xnil t5) w fun t6 w =>
    N (xv (Instr.fieldAt 125 t6 0)) w fun t7 w =>
    N (xv (Instr.loadAt 2 t7)) w fun t8 w =>
    M t8 fun t2 =>
    k (Env.p e 2 t2) w) := nr (by kernel_rfl)
theorem c29_2_s (hw : Cur w) : W Try.prog 9 V29 c29_2 Q e w = (opsW (nx Try.prog) mv gdP 9 V29 o29_3 (fun e w => Q .ret e w) o29_3.toList [] e e w) := by rw [(by kernel_rfl : c29_2 = .seq (.region 3 o29_3 false) Code.ret), W_seq_reg]; simp only [W_ret, W_skip, W_exit, W_label]
theorem o29_1_eq : opsW N M G 9 V29 o29_1 k o29_1.toList [] e e w =
    (M (e 0) fun t3 =>
    N (xv (xbin BinOp.eql 50 (Operand.tmp 3) (Operand.const (Value.pointer none)) t3 (Value.pointer none))) w fun t4 w =>
    k (Env.p e 4 t4) w) := nr (by kernel_rfl)
theorem o29_2_eq : opsW N M G 9 V29 o29_2 k o29_2.toList [] e e w =
    (M (Value.int IntKind.i64 0) fun t2 =>
    k (Env.p e 2 t2) w) := nr (by kernel_rfl)
theorem c29_5_s (hw : Cur w) : W Try.prog 9 V29 c29_5 Q e w = (opsW (nx Try.prog) mv gdP 9 V29 o29_2 (fun e w => Q .ret e w) o29_2.toList [] e e w) := by rw [(by kernel_rfl : c29_5 = .seq (.region 2 o29_2 false) Code.ret), W_seq_reg]; simp only [W_ret, W_skip, W_exit, W_label]
theorem c29_4_v : opV V29 (.tmp 4) = true := by kernel_rfl
theorem c29_4_s (hw : Cur w) : W Try.prog 9 V29 c29_4 Q e w = (condP (ev e (.tmp 4)) (W Try.prog 9 V29 c29_5 Q e w) (Q .normal e w)) := by rw [(by kernel_rfl : c29_4 = .cond (.tmp 4) c29_5 Code.skip), W_cond, c29_4_v, cond_true]; simp only [W_ret, W_skip, W_exit, W_label]
theorem c29_3_s (hw : Cur w) : W Try.prog 9 V29 c29_3 Q e w = (opsW (nx Try.prog) mv gdP 9 V29 o29_1 (fun e w => W Try.prog 9 V29 c29_4 Q e w) o29_1.toList [] e e w) := by rw [(by kernel_rfl : c29_3 = .seq (.region 1 o29_1 false) c29_4), W_seq_reg]
theorem c29_1_s (hw : Cur w) : W Try.prog 9 V29 c29_1 Q e w = (W Try.prog 9 V29 c29_3 (seqQ (fun e w => W Try.prog 9 V29 c29_2 Q e w) Q) e w) := by rw [(by kernel_rfl : c29_1 = .seq c29_3 c29_2), W_seq]
theorem c29_s (hw : Cur w) : W Try.prog 9 V29 c29 Q e w = (opsW (nx Try.prog) mv gdP 9 V29 o29_0 (fun e w => W Try.prog 9 V29 c29_1 Q e w) o29_0.toList [] e e w) := by rw [(by kernel_rfl : c29 = .seq (.region 0 o29_0 false) c29_1), W_seq_reg]
theorem call29 {a0 : Value} {w : World} {R : Value → World → Prop} (h : W Try.prog 9 V29 c29 (retQ Try.prog [.tmp 2] R) (argE [a0]) w) : CallsN Try.prog 29 [a0] w R :=
  callsN_of_W (c := c29) (rs := [.tmp 2]) V29 Try.ntmps29 (by rw [Try.results29]) mixed Try.func29 (by kernel_rfl) (by kernel_rfl) (by kernel_rfl) (by kernel_rfl) (by simp) h
noncomputable def hk29 := And.intro (@o29_0_eq) <| And.intro (@o29_3_eq) <| And.intro (@c29_2_s) <| And.intro (@o29_1_eq) <| And.intro (@o29_2_eq) <| And.intro (@c29_5_s) <| And.intro (@c29_4_s) <| And.intro (@c29_3_s) <| And.intro (@c29_1_s) <| @c29_s
-- K29: ↓hk29
/-! ### (*vouch/gap.Gap[vouch/api.Record]) . Put -/
def V58 : Nat → Bool := fun i => [0, 1, 2, 5, 6, 7, 9, 23, 33, 40, 53].elem i
noncomputable def c58 : Code := (Try.f58.body.getD .skip)
noncomputable def o58_0 : Array Oper := rO (cL c58)
noncomputable def c58_1 : Code := (cR c58)
noncomputable def c58_2 : Code := (cR c58_1)
noncomputable def c58_3 : Code := (cR c58_2)
noncomputable def c58_4 : Code := (cR c58_3)
noncomputable def c58_5 : Code := (cR c58_4)
noncomputable def o58_11 : Array Oper := rO (cL c58_5)
noncomputable def c58_6 : Code := (cR c58_5)
noncomputable def o58_12 : Array Oper := rO (cL c58_6)
noncomputable def c58_7 : Code := (cL c58_4)
noncomputable def o58_8 : Array Oper := rO (cL c58_7)
noncomputable def c58_8 : Code := (cR c58_7)
noncomputable def c58_9 : Code := (cL c58_8)
noncomputable def o58_9 : Array Oper := rO (cL c58_9)
noncomputable def c58_10 : Code := (cR c58_9)
noncomputable def o58_10 : Array Oper := rO (cL c58_10)
noncomputable def c58_11 : Code := (cL c58_3)
noncomputable def o58_6 : Array Oper := rO (cL c58_11)
noncomputable def c58_12 : Code := (cR c58_11)
noncomputable def c58_13 : Code := (cL c58_12)
noncomputable def o58_7 : Array Oper := rO (cL c58_13)
noncomputable def c58_14 : Code := (cL c58_2)
noncomputable def o58_3 : Array Oper := rO (cL c58_14)
noncomputable def c58_15 : Code := (cR c58_14)
noncomputable def o58_4 : Array Oper := rO (cL c58_15)
noncomputable def c58_16 : Code := (cR c58_15)
noncomputable def c58_17 : Code := (cL c58_16)
noncomputable def o58_5 : Array Oper := rO (cL c58_17)
noncomputable def c58_18 : Code := (cL c58_1)
noncomputable def o58_1 : Array Oper := rO (cL c58_18)
noncomputable def c58_19 : Code := (cR c58_18)
noncomputable def c58_20 : Code := (cL c58_19)
noncomputable def o58_2 : Array Oper := rO (cL c58_20)
theorem o58_0_eq : opsW N M G 64 V58 o58_0 k o58_0.toList [] e e w =
    (N (xv (Instr.box 54 (e 2))) w fun t5 w =>
    M (Value.slice none 0 0) fun t6 =>
    M (Value.bool false) fun t7 =>
    k (Env.p (Env.p (Env.p e 5 t5) 6 t6) 7 t7) w) := nr (by kernel_rfl)
theorem o58_11_eq : drawGo N T M G H 64 V58 o58_11 S k o58_11.size true (Array.replicate o58_11.size false) [] e e w =
    (M (e 0) fun t58 =>
    T (xnil t58) fun t59 =>
    T (xv (Instr.fieldAt 125 t59 2)) fun t60 =>
    T (xv (Instr.loadAt 123 t60)) fun t61 =>
    M (e 1) fun t62 =>
    T (xv (Instr.loadAt 54 (e 5))) fun t63 =>
    N (xu (Instr.mapUpdate 123 t61 t62 t63)) w fun _ w =>
    k e w) := nr (by kernel_rfl)
theorem o58_12_eq : opsW N M G 64 V58 o58_12 k o58_12.toList [] e e w =
    (M (Value.slice none 0 0) fun t6 =>
    M (Value.bool false) fun t7 =>
    k (Env.p (Env.p e 6 t6) 7 t7) w) := nr (by kernel_rfl)
theorem c58_6_s (hw : Cur w) : W Try.prog 64 V58 c58_6 Q e w = (opsW (nx Try.prog) mv gdP 64 V58 o58_12 (fun e w => Q .ret e w) o58_12.toList [] e e w) := by rw [(by kernel_rfl : c58_6 = .seq (.region 12 o58_12 false) Code.ret), W_seq_reg]; simp only [W_ret, W_skip, W_exit, W_label]
theorem c58_5_s (hw : Cur w) : W Try.prog 64 V58 c58_5 Q e w = (∃ S : World → Prop, S w.drew ∧ drawGo (nx Try.prog) (takeP Try.prog S) mv gdP gdT 64 V58 o58_11 S (fun e w => W Try.prog 64 V58 c58_6 Q e w) o58_11.size true (Array.replicate o58_11.size false) [] e e w.drew) := by rw [(by kernel_rfl : c58_5 = .seq (.region 11 o58_11 true) c58_6), W_seq_regD]
theorem o58_8_eq : drawGo N T M G H 64 V58 o58_8 S k o58_8.size true (Array.replicate o58_8.size false) [] e e w =
    (M (e 0) fun t44 =>
    T (xnil t44) fun t45 =>
    T (xv (Instr.fieldAt 125 t45 2)) fun t46 =>
    T (xv (Instr.loadAt 123 t46)) fun t47 =>
    T (builtin Builtin.len #[123] 3 ([false]).toArray ([t47]).toArray) fun t48 =>
    M (e 0) fun t49 =>
    T (xnil t49) fun t50 =>
    T (xv (Instr.fieldAt 125 t50 1)) fun t51 =>
    T (xv (Instr.loadAt 3 t51)) fun t52 =>
    T (xv (xbin BinOp.geq 3 (Operand.tmp 48) (Operand.tmp 52) t48 t52)) fun t53 =>
    k (Env.p e 53 t53) w) := nr (by kernel_rfl)
theorem o58_9_eq : opsW N M G 64 V58 o58_9 k o58_9.toList [] e e w =
    (M (e 0) fun t54 =>
    N (xnil t54) w fun t55 w =>
    N (xv (Instr.fieldAt 125 t55 2)) w fun t56 w =>
    N (xv (Instr.loadAt 123 t56)) w fun t57 w =>
    N (builtin Builtin.clear #[123] 0 ([false]).toArray ([t57]).toArray) w fun _ w =>
    k e w) := nr (by kernel_rfl)
theorem o58_10_eq : opsW N M G 64 V58 o58_10 k o58_10.toList [] e e w =
    (M (Value.slice none 0 0) fun t6 =>
    M (Value.bool true) fun t7 =>
    k (Env.p (Env.p e 6 t6) 7 t7) w) := nr (by kernel_rfl)
theorem c58_10_s (hw : Cur w) : W Try.prog 64 V58 c58_10 Q e w = (opsW (nx Try.prog) mv gdP 64 V58 o58_10 (fun e w => Q .ret e w) o58_10.toList [] e e w) := by rw [(by kernel_rfl : c58_10 = .seq (.region 10 o58_10 false) Code.ret), W_seq_reg]; simp only [W_ret, W_skip, W_exit, W_label]
theorem c58_9_s (hw : Cur w) : W Try.prog 64 V58 c58_9 Q e w = (opsW (nx Try.prog) mv gdP 64 V58 o58_9 (fun e w => W Try.prog 64 V58 c58_10 Q e w) o58_9.toList [] e e w) := by rw [(by kernel_rfl : c58_9 = .seq (.region 9 o58_9 false) c58_10), W_seq_reg]
theorem c58_8_v : opV V58 (.tmp 53) = true := by kernel_rfl
theorem c58_8_s (hw : Cur w) : W Try.prog 64 V58 c58_8 Q e w = (condP (ev e (.tmp 53)) (W Try.prog 64 V58 c58_9 Q e w) (Q .normal e w)) := by rw [(by kernel_rfl : c58_8 = .cond (.tmp 53) c58_9 Code.skip), W_cond, c58_8_v, cond_true]; simp only [W_ret, W_skip, W_exit, W_label]
theorem c58_7_s (hw : Cur w) : W Try.prog 64 V58 c58_7 Q e w = (∃ S : World → Prop, S w.drew ∧ drawGo (nx Try.prog) (takeP Try.prog S) mv gdP gdT 64 V58 o58_8 S (fun e w => W Try.prog 64 V58 c58_8 Q e w) o58_8.size true (Array.replicate o58_8.size false) [] e e w.drew) := by rw [(by kernel_rfl : c58_7 = .seq (.region 8 o58_8 true) c58_8), W_seq_regD]
theorem c58_4_s (hw : Cur w) : W Try.prog 64 V58 c58_4 Q e w = (W Try.prog 64 V58 c58_7 (seqQ (fun e w => W Try.prog 64 V58 c58_5 Q e w) Q) e w) := by rw [(by kernel_rfl : c58_4 = .seq c58_7 c58_5), W_seq]
theorem o58_6_eq : opsW N M G 64 V58 o58_6 k o58_6.toList [] e e w =
    (M (e 1) fun t34 =>
    M (e 0) fun t35 =>
    N (xnil t35) w fun t36 w =>
    N (xv (Instr.fieldAt 125 t36 0)) w fun t37 w =>
    N (xv (Instr.loadAt 2 t37)) w fun t38 w =>
    N (xv (xbin BinOp.add 2 (Operand.tmp 38) (Operand.const (Value.int IntKind.i64 1)) t38 (Value.int IntKind.i64 1))) w fun t39 w =>
    N (xv (xbin BinOp.eql 2 (Operand.tmp 34) (Operand.tmp 39) t34 t39)) w fun t40 w =>
    k (Env.p e 40 t40) w) := nr (by kernel_rfl)
theorem o58_7_eq : opsW N M G 64 V58 o58_7 k o58_7.toList [] e e w =
    (M (e 0) fun t41 =>
    N (xv (Instr.loadAt 54 (e 5))) w fun t42 w =>
    N (xcall (Value.func (Fn.func 85) #[] #[]) [t41, t42]) w fun t43 w =>
    M t43 fun t6 =>
    M (Value.bool false) fun t7 =>
    k (Env.p (Env.p e 6 t6) 7 t7) w) := nr (by kernel_rfl)
theorem c58_13_s (hw : Cur w) : W Try.prog 64 V58 c58_13 Q e w = (opsW (nx Try.prog) mv gdP 64 V58 o58_7 (fun e w => Q .ret e w) o58_7.toList [] e e w) := by rw [(by kernel_rfl : c58_13 = .seq (.region 7 o58_7 false) Code.ret), W_seq_reg]; simp only [W_ret, W_skip, W_exit, W_label]
theorem c58_12_v : opV V58 (.tmp 40) = true := by kernel_rfl
theorem c58_12_s (hw : Cur w) : W Try.prog 64 V58 c58_12 Q e w = (condP (ev e (.tmp 40)) (W Try.prog 64 V58 c58_13 Q e w) (Q .normal e w)) := by rw [(by kernel_rfl : c58_12 = .cond (.tmp 40) c58_13 Code.skip), W_cond, c58_12_v, cond_true]; simp only [W_ret, W_skip, W_exit, W_label]
theorem c58_11_s (hw : Cur w) : W Try.prog 64 V58 c58_11 Q e w = (opsW (nx Try.prog) mv gdP 64 V58 o58_6 (fun e w => W Try.prog 64 V58 c58_12 Q e w) o58_6.toList [] e e w) := by rw [(by kernel_rfl : c58_11 = .seq (.region 6 o58_6 false) c58_12), W_seq_reg]
theorem c58_3_s (hw : Cur w) : W Try.prog 64 V58 c58_3 Q e w = (W Try.prog 64 V58 c58_11 (seqQ (fun e w => W Try.prog 64 V58 c58_4 Q e w) Q) e w) := by rw [(by kernel_rfl : c58_3 = .seq c58_11 c58_4), W_seq]
theorem o58_3_eq : opsW N M G 64 V58 o58_3 k o58_3.toList [] e e w =
    (M (e 0) fun t25 =>
    N (xnil t25) w fun t26 w =>
    N (xv (Instr.fieldAt 125 t26 2)) w fun t27 w =>
    N (xv (Instr.loadAt 123 t27)) w fun t28 w =>
    M (e 1) fun t29 =>
    N (xv (Instr.lookup 123 t28 t29 true)) w fun t30 w =>
    M t30 fun t24 =>
    N (xv (Instr.extract t24 0)) w fun t31 w =>
    N (xv (Instr.extract t24 1)) w fun t32 w =>
    N (xv (Instr.alloc 54 true (.tuple #[]))) w fun t8 w =>
    N (xu (Instr.storeAt 54 t8 t31)) w fun _ w =>
    M t32 fun t9 =>
    k (Env.p e 9 t9) w) := nr (by kernel_rfl)
theorem o58_4_eq : opsW N M G 64 V58 o58_4 k o58_4.toList [] e e w =
    (M (e 9) fun t33 =>
    k (Env.p e 33 t33) w) := nr (by kernel_rfl)
theorem o58_5_eq : opsW N M G 64 V58 o58_5 k o58_5.toList [] e e w =
    (M (Value.slice none 0 0) fun t6 =>
    M (Value.bool false) fun t7 =>
    k (Env.p (Env.p e 6 t6) 7 t7) w) := nr (by kernel_rfl)
theorem c58_17_s (hw : Cur w) : W Try.prog 64 V58 c58_17 Q e w = (opsW (nx Try.prog) mv gdP 64 V58 o58_5 (fun e w => Q .ret e w) o58_5.toList [] e e w) := by rw [(by kernel_rfl : c58_17 = .seq (.region 5 o58_5 false) Code.ret), W_seq_reg]; simp only [W_ret, W_skip, W_exit, W_label]
theorem c58_16_v : opV V58 (.tmp 33) = true := by kernel_rfl
theorem c58_16_s (hw : Cur w) : W Try.prog 64 V58 c58_16 Q e w = (condP (ev e (.tmp 33)) (W Try.prog 64 V58 c58_17 Q e w) (Q .normal e w)) := by rw [(by kernel_rfl : c58_16 = .cond (.tmp 33) c58_17 Code.skip), W_cond, c58_16_v, cond_true]; simp only [W_ret, W_skip, W_exit, W_label]
theorem c58_15_s (hw : Cur w) : W Try.prog 64 V58 c58_15 Q e w = (opsW (nx Try.prog) mv gdP 64 V58 o58_4 (fun e w => W Try.prog 64 V58 c58_16 Q e w) o58_4.toList [] e e w) := by rw [(by kernel_rfl : c58_15 = .seq (.region 4 o58_4 false) c58_16), W_seq_reg]
theorem c58_14_s (hw : Cur w) : W Try.prog 64 V58 c58_14 Q e w = (opsW (nx Try.prog) mv gdP 64 V58 o58_3 (fun e w => W Try.prog 64 V58 c58_15 Q e w) o58_3.toList [] e e w) := by rw [(by kernel_rfl : c58_14 = .seq (.region 3 o58_3 false) c58_15), W_seq_reg]
theorem c58_2_s (hw : Cur w) : W Try.prog 64 V58 c58_2 Q e w = (W Try.prog 64 V58 c58_14 (seqQ (fun e w => W Try.prog 64 V58 c58_3 Q e w) Q) e w) := by rw [(by kernel_rfl : c58_2 = .seq c58_14 c58_3), W_seq]
theorem o58_1_eq : opsW N M G 64 V58 o58_1 k o58_1.toList [] e e w =
    (M (e 0) fun t10 =>
    N (xv (xbin BinOp.eql 50 (Operand.tmp 10) (Operand.const (Value.pointer none)) t10 (Value.pointer none))) w fun t11 w =>
    M t11 fun t12 =>
    G (isB t12 false) (fun K => M (e 1) fun v => K v w) (fun t13 w =>
    G (isB t12 false) (fun K => M (e 0) fun v => K v w) (fun t14 w =>
    G (isB t12 false) (fun K => N (xnil t14) w K) (fun t15 w =>
    G (isB t12 false) (fun K => N (xv (Instr.fieldAt 125 t15 0)) w K) (fun t16 w =>
    G (isB t12 false) (fun K => N (xv (Instr.loadAt 2 t16)) w K) (fun t17 w =>
    G (isB t12 false) (fun K => N (xv (xbin BinOp.leq 2 (Operand.tmp 13) (Operand.tmp 17) t13 t17)) w K) (fun t18 w =>
    N (xpick t12 (Value.bool true) t18) w fun t19 w =>
    M t19 fun t20 =>
    G (isB t20 false) (fun K => M (e 1) fun v => K v w) (fun t21 w =>
    G (isB t20 false) (fun K => N (xv (xbin BinOp.gtr 2 (Operand.tmp 21) (Operand.const (Value.int IntKind.i64 1099511627776)) t21 (Value.int IntKind.i64 1099511627776))) w K) (fun t22 w =>
    N (xpick t20 (Value.bool true) t22) w fun t23 w =>
    k (Env.p e 23 t23) w) w) w) w) w) w) w) w) w) := nr (by kernel_rfl)
theorem o58_2_eq : opsW N M G 64 V58 o58_2 k o58_2.toList [] e e w =
    (M (Value.slice none 0 0) fun t6 =>
    M (Value.bool false) fun t7 =>
    k (Env.p (Env.p e 6 t6) 7 t7) w) := nr (by kernel_rfl)
theorem c58_20_s (hw : Cur w) : W Try.prog 64 V58 c58_20 Q e w = (opsW (nx Try.prog) mv gdP 64 V58 o58_2 (fun e w => Q .ret e w) o58_2.toList [] e e w) := by rw [(by kernel_rfl : c58_20 = .seq (.region 2 o58_2 false) Code.ret), W_seq_reg]; simp only [W_ret, W_skip, W_exit, W_label]
theorem c58_19_v : opV V58 (.tmp 23) = true := by kernel_rfl
theorem c58_19_s (hw : Cur w) : W Try.prog 64 V58 c58_19 Q e w = (condP (ev e (.tmp 23)) (W Try.prog 64 V58 c58_20 Q e w) (Q .normal e w)) := by rw [(by kernel_rfl : c58_19 = .cond (.tmp 23) c58_20 Code.skip), W_cond, c58_19_v, cond_true]; simp only [W_ret, W_skip, W_exit, W_label]
theorem c58_18_s (hw : Cur w) : W Try.prog 64 V58 c58_18 Q e w = (opsW (nx Try.prog) mv gdP 64 V58 o58_1 (fun e w => W Try.prog 64 V58 c58_19 Q e w) o58_1.toList [] e e w) := by rw [(by kernel_rfl : c58_18 = .seq (.region 1 o58_1 false) c58_19), W_seq_reg]
theorem c58_1_s (hw : Cur w) : W Try.prog 64 V58 c58_1 Q e w = (W Try.prog 64 V58 c58_18 (seqQ (fun e w => W Try.prog 64 V58 c58_2 Q e w) Q) e w) := by rw [(by kernel_rfl : c58_1 = .seq c58_18 c58_2), W_seq]
theorem c58_s (hw : Cur w) : W Try.prog 64 V58 c58 Q e w = (opsW (nx Try.prog) mv gdP 64 V58 o58_0 (fun e w => W Try.prog 64 V58 c58_1 Q e w) o58_0.toList [] e e w) := by rw [(by kernel_rfl : c58 = .seq (.region 0 o58_0 false) c58_1), W_seq_reg]
theorem call58 {a0 a1 a2 : Value} {w : World} {R : Value → World → Prop} (h : W Try.prog 64 V58 c58 (retQ Try.prog [.tmp 6, .tmp 7] R) (argE [a0, a1, a2]) w) : CallsN Try.prog 58 [a0, a1, a2] w R :=
  callsN_of_W (c := c58) (rs := [.tmp 6, .tmp 7]) V58 Try.ntmps58 (by rw [Try.results58]) mixed Try.func58 (by kernel_rfl) (by kernel_rfl) (by kernel_rfl) (by kernel_rfl) (by simp) h
noncomputable def hk58 := And.intro (@o58_0_eq) <| And.intro (@o58_11_eq) <| And.intro (@o58_12_eq) <| And.intro (@c58_6_s) <| And.intro (@c58_5_s) <| And.intro (@o58_8_eq) <| And.intro (@o58_9_eq) <| And.intro (@o58_10_eq) <| And.intro (@c58_10_s) <| And.intro (@c58_9_s) <| And.intro (@c58_8_s) <| And.intro (@c58_7_s) <| And.intro (@c58_4_s) <| And.intro (@o58_6_eq) <| And.intro (@o58_7_eq) <| And.intro (@c58_13_s) <| And.intro (@c58_12_s) <| And.intro (@c58_11_s) <| And.intro (@c58_3_s) <| And.intro (@o58_3_eq) <| And.intro (@o58_4_eq) <| And.intro (@o58_5_eq) <| And.intro (@c58_17_s) <| And.intro (@c58_16_s) <| And.intro (@c58_15_s) <| And.intro (@c58_14_s) <| And.intro (@c58_2_s) <| And.intro (@o58_1_eq) <| And.intro (@o58_2_eq) <| And.intro (@c58_20_s) <| And.intro (@c58_19_s) <| And.intro (@c58_18_s) <| And.intro (@c58_1_s) <| @c58_s
-- K58: ↓hk58
/-! ### (*vouch/gap.Gap[vouch/api.Record]) . out -/
def V85 : Nat → Bool := fun i => [0, 1, 3, 4, 5, 6, 7, 31].elem i
noncomputable def c85 : Code := (Try.f85.body.getD .skip)
noncomputable def o85_0 : Array Oper := rO (cL c85)
noncomputable def c85_1 : Code := (cR c85)
noncomputable def o85_1 : Array Oper := rO (cL c85_1)
noncomputable def c85_2 : Code := (cR c85_1)
noncomputable def o85_2 : Array Oper := rO (cL c85_2)
noncomputable def c85_3 : Code := (cR c85_2)
noncomputable def c85_4 : Code := (cL c85_3)
noncomputable def c85_5 : Code := (cL c85_4)
noncomputable def c85_6 : Code := (cL c85_5)
noncomputable def o85_3 : Array Oper := rO (cL c85_6)
noncomputable def c85_7 : Code := (cR c85_6)
noncomputable def c85_8 : Code := (cR c85_7)
noncomputable def o85_6 : Array Oper := rO (cL c85_8)
noncomputable def c85_9 : Code := (cR c85_8)
noncomputable def o85_7 : Array Oper := rO (cL c85_9)
noncomputable def c85_10 : Code := (cR c85_9)
noncomputable def o85_8 : Array Oper := rO c85_10
noncomputable def c85_11 : Code := (cL c85_7)
noncomputable def o85_4 : Array Oper := rO (cL c85_11)
noncomputable def c85_12 : Code := (cR c85_11)
noncomputable def c85_13 : Code := (cL c85_12)
noncomputable def o85_5 : Array Oper := rO (cL c85_13)
theorem o85_0_eq : opsW N M G 52 V85 o85_0 k o85_0.toList [] e e w =
    (N (xv (Instr.box 54 (e 1))) w fun t3 w =>
    M (Value.slice none 0 0) fun t4 =>
    k (Env.p (Env.p e 3 t3) 4 t4) w) := nr (by kernel_rfl)
theorem o85_1_eq : opsW N M G 52 V85 o85_1 k o85_1.toList [] e e w =
    (N (xv (Instr.loadAt 54 (e 3))) w fun t8 w =>
    N (xv (Instr.buildSlice 60 1 ([(0, t8)]).toArray)) w fun t9 w =>
    M t9 fun t5 =>
    k (Env.p e 5 t5) w) := nr (by kernel_rfl)
theorem o85_2_eq : opsW N M G 52 V85 o85_2 k o85_2.toList [] e e w =
    (M (e 0) fun t10 =>
    N (xnil t10) w fun t11 w =>
    N (xv (Instr.fieldAt 125 t11 0)) w fun t12 w =>
    N (xv (Instr.loadAt 2 t12)) w fun t13 w =>
    N (xv (xbin BinOp.add 2 (Operand.tmp 13) (Operand.const (Value.int IntKind.i64 1)) t13 (Value.int IntKind.i64 1))) w fun t14 w =>
    N (xnil t10) w fun t15 w =>
    N (xv (Instr.fieldAt 125 t15 0)) w fun t16 w =>
    N (xu (Instr.storeAt 2 t16 t14)) w fun _ w =>
    k e w) := nr (by kernel_rfl)
theorem o85_3_eq : drawGo N T M G H 52 V85 o85_3 S k o85_3.size true (Array.replicate o85_3.size false) [] e e w =
    (M (e 0) fun t18 =>
    T (xnil t18) fun t19 =>
    T (xv (Instr.fieldAt 125 t19 2)) fun t20 =>
    T (xv (Instr.loadAt 123 t20)) fun t21 =>
    M (e 0) fun t22 =>
    T (xnil t22) fun t23 =>
    T (xv (Instr.fieldAt 125 t23 0)) fun t24 =>
    T (xv (Instr.loadAt 2 t24)) fun t25 =>
    T (xv (xbin BinOp.add 2 (Operand.tmp 25) (Operand.const (Value.int IntKind.i64 1)) t25 (Value.int IntKind.i64 1))) fun t26 =>
    T (xv (Instr.lookup 123 t21 t26 true)) fun t27 =>
    M t27 fun t17 =>
    T (xv (Instr.extract t17 0)) fun t28 =>
    T (xv (Instr.extract t17 1)) fun t29 =>
    N (xv (Instr.alloc 54 true (.tuple #[]))) w fun t6 w =>
    S w ∧ (N (xu (Instr.storeAt 54 t6 t28)) w fun _ w =>
    S w ∧ (M t29 fun t7 =>
    k (Env.p (Env.p e 6 t6) 7 t7) w))) := nr (by kernel_rfl)
theorem o85_6_eq : opsW N M G 52 V85 o85_6 k o85_6.toList [] e e w =
    (M (e 5) fun t33 =>
    N (xv (Instr.loadAt 54 (e 6))) w fun t34 w =>
    N (xv (Instr.buildSlice 60 1 ([(0, t34)]).toArray)) w fun t35 w =>
    N (builtin Builtin.append #[60, 60] 60 ([false, false]).toArray ([t33, t35]).toArray) w fun t36 w =>
    M t36 fun t5 =>
    k (Env.p e 5 t5) w) := nr (by kernel_rfl)
theorem o85_7_eq : opsW N M G 52 V85 o85_7 k o85_7.toList [] e e w =
    (M (e 0) fun t37 =>
    N (xnil t37) w fun t38 w =>
    N (xv (Instr.fieldAt 125 t38 0)) w fun t39 w =>
    N (xv (Instr.loadAt 2 t39)) w fun t40 w =>
    N (xv (xbin BinOp.add 2 (Operand.tmp 40) (Operand.const (Value.int IntKind.i64 1)) t40 (Value.int IntKind.i64 1))) w fun t41 w =>
    N (xnil t37) w fun t42 w =>
    N (xv (Instr.fieldAt 125 t42 0)) w fun t43 w =>
    N (xu (Instr.storeAt 2 t43 t41)) w fun _ w =>
    k e w) := nr (by kernel_rfl)
theorem o85_8_eq : drawGo N T M G H 52 V85 o85_8 S k o85_8.size true (Array.replicate o85_8.size false) [] e e w =
    (M (e 0) fun t44 =>
    T (xnil t44) fun t45 =>
    T (xv (Instr.fieldAt 125 t45 2)) fun t46 =>
    T (xv (Instr.loadAt 123 t46)) fun t47 =>
    M (e 0) fun t48 =>
    T (xnil t48) fun t49 =>
    T (xv (Instr.fieldAt 125 t49 0)) fun t50 =>
    T (xv (Instr.loadAt 2 t50)) fun t51 =>
    N (builtin Builtin.delete #[123, 2] 0 ([false, false]).toArray ([t47, t51]).toArray) w fun _ w =>
    S w ∧ (k e w)) := nr (by kernel_rfl)
theorem c85_10_s (hw : Cur w) : W Try.prog 52 V85 c85_10 Q e w = (∃ S : World → Prop, S w.drew ∧ drawGo (nx Try.prog) (takeP Try.prog S) mv gdP gdT 52 V85 o85_8 S (fun e w => Q .normal e w) o85_8.size true (Array.replicate o85_8.size false) [] e e w.drew) := by rw [(by kernel_rfl : c85_10 = (.region 8 o85_8 true)), W_regD']
theorem c85_9_s (hw : Cur w) : W Try.prog 52 V85 c85_9 Q e w = (opsW (nx Try.prog) mv gdP 52 V85 o85_7 (fun e w => W Try.prog 52 V85 c85_10 Q e w) o85_7.toList [] e e w) := by rw [(by kernel_rfl : c85_9 = .seq (.region 7 o85_7 false) c85_10), W_seq_reg]
theorem c85_8_s (hw : Cur w) : W Try.prog 52 V85 c85_8 Q e w = (opsW (nx Try.prog) mv gdP 52 V85 o85_6 (fun e w => W Try.prog 52 V85 c85_9 Q e w) o85_6.toList [] e e w) := by rw [(by kernel_rfl : c85_8 = .seq (.region 6 o85_6 false) c85_9), W_seq_reg]
theorem o85_4_eq : opsW N M G 52 V85 o85_4 k o85_4.toList [] e e w =
    (M (e 7) fun t30 =>
    N (xv (Op.unary UnOp.not t30)) w fun t31 w =>
    k (Env.p e 31 t31) w) := nr (by kernel_rfl)
theorem o85_5_eq : opsW N M G 52 V85 o85_5 k o85_5.toList [] e e w =
    (M (e 5) fun t32 =>
    M t32 fun t4 =>
    k (Env.p e 4 t4) w) := nr (by kernel_rfl)
theorem c85_13_s (hw : Cur w) : W Try.prog 52 V85 c85_13 Q e w = (opsW (nx Try.prog) mv gdP 52 V85 o85_5 (fun e w => Q .ret e w) o85_5.toList [] e e w) := by rw [(by kernel_rfl : c85_13 = .seq (.region 5 o85_5 false) Code.ret), W_seq_reg]; simp only [W_ret, W_skip, W_exit, W_label]
theorem c85_12_v : opV V85 (.tmp 31) = true := by kernel_rfl
theorem c85_12_s (hw : Cur w) : W Try.prog 52 V85 c85_12 Q e w = (condP (ev e (.tmp 31)) (W Try.prog 52 V85 c85_13 Q e w) (Q .normal e w)) := by rw [(by kernel_rfl : c85_12 = .cond (.tmp 31) c85_13 Code.skip), W_cond, c85_12_v, cond_true]; simp only [W_ret, W_skip, W_exit, W_label]
theorem c85_11_s (hw : Cur w) : W Try.prog 52 V85 c85_11 Q e w = (opsW (nx Try.prog) mv gdP 52 V85 o85_4 (fun e w => W Try.prog 52 V85 c85_12 Q e w) o85_4.toList [] e e w) := by rw [(by kernel_rfl : c85_11 = .seq (.region 4 o85_4 false) c85_12), W_seq_reg]
theorem c85_7_s (hw : Cur w) : W Try.prog 52 V85 c85_7 Q e w = (W Try.prog 52 V85 c85_11 (seqQ (fun e w => W Try.prog 52 V85 c85_8 Q e w) Q) e w) := by rw [(by kernel_rfl : c85_7 = .seq c85_11 c85_8), W_seq]
theorem c85_6_s (hw : Cur w) : W Try.prog 52 V85 c85_6 Q e w = (∃ S : World → Prop, S w.drew ∧ drawGo (nx Try.prog) (takeP Try.prog S) mv gdP gdT 52 V85 o85_3 S (fun e w => W Try.prog 52 V85 c85_7 Q e w) o85_3.size true (Array.replicate o85_3.size false) [] e e w.drew) := by rw [(by kernel_rfl : c85_6 = .seq (.region 3 o85_3 true) c85_7), W_seq_regD]
theorem c85_5_s (hw : Cur w) : W Try.prog 52 V85 c85_5 Q e w = (W Try.prog 52 V85 c85_6 (blockQ 1 Q) e w) := by rw [(by kernel_rfl : c85_5 = .block 1 c85_6), W_block]
theorem c85_4_s (hw : Cur w) : W Try.prog 52 V85 c85_4 Q e w = (LoopP (fun e w k => W Try.prog 52 V85 c85_5 (seqQ k Q) e w) e w) := by rw [(by kernel_rfl : c85_4 = .loop c85_5), W_loop]
theorem c85_3_s (hw : Cur w) : W Try.prog 52 V85 c85_3 Q e w = (W Try.prog 52 V85 c85_4 (blockQ 0 Q) e w) := by rw [(by kernel_rfl : c85_3 = .block 0 c85_4), W_block]
theorem c85_2_s (hw : Cur w) : W Try.prog 52 V85 c85_2 Q e w = (opsW (nx Try.prog) mv gdP 52 V85 o85_2 (fun e w => W Try.prog 52 V85 c85_3 Q e w) o85_2.toList [] e e w) := by rw [(by kernel_rfl : c85_2 = .seq (.region 2 o85_2 false) c85_3), W_seq_reg]
theorem c85_1_s (hw : Cur w) : W Try.prog 52 V85 c85_1 Q e w = (opsW (nx Try.prog) mv gdP 52 V85 o85_1 (fun e w => W Try.prog 52 V85 c85_2 Q e w) o85_1.toList [] e e w) := by rw [(by kernel_rfl : c85_1 = .seq (.region 1 o85_1 false) c85_2), W_seq_reg]
theorem c85_s (hw : Cur w) : W Try.prog 52 V85 c85 Q e w = (opsW (nx Try.prog) mv gdP 52 V85 o85_0 (fun e w => W Try.prog 52 V85 c85_1 Q e w) o85_0.toList [] e e w) := by rw [(by kernel_rfl : c85 = .seq (.region 0 o85_0 false) c85_1), W_seq_reg]
theorem call85 {a0 a1 : Value} {w : World} {R : Value → World → Prop} (h : W Try.prog 52 V85 c85 (retQ Try.prog [.tmp 4] R) (argE [a0, a1]) w) : CallsN Try.prog 85 [a0, a1] w R :=
  callsN_of_W (c := c85) (rs := [.tmp 4]) V85 Try.ntmps85 (by rw [Try.results85]) mixed Try.func85 (by kernel_rfl) (by kernel_rfl) (by kernel_rfl) (by kernel_rfl) (by simp) h
noncomputable def hk85 := And.intro (@o85_0_eq) <| And.intro (@o85_1_eq) <| And.intro (@o85_2_eq) <| And.intro (@o85_3_eq) <| And.intro (@o85_6_eq) <| And.intro (@o85_7_eq) <| And.intro (@o85_8_eq) <| And.intro (@c85_10_s) <| And.intro (@c85_9_s) <| And.intro (@c85_8_s) <| And.intro (@o85_4_eq) <| And.intro (@o85_5_eq) <| And.intro (@c85_13_s) <| And.intro (@c85_12_s) <| And.intro (@c85_11_s) <| And.intro (@c85_7_s) <| And.intro (@c85_6_s) <| And.intro (@c85_5_s) <| And.intro (@c85_4_s) <| And.intro (@c85_3_s) <| And.intro (@c85_2_s) <| And.intro (@c85_1_s) <| @c85_s
-- K85: ↓hk85
/-! ### (*vouch/gap.Gap[vouch/api.Record]) . Clear -/
def V62 : Nat → Bool := fun i => [0, 1, 5].elem i
noncomputable def c62 : Code := (Try.f62.body.getD .skip)
noncomputable def o62_0 : Array Oper := rO (cL c62)
noncomputable def c62_1 : Code := (cR c62)
noncomputable def c62_2 : Code := (cL c62_1)
noncomputable def o62_1 : Array Oper := rO c62_2
theorem o62_0_eq : opsW N M G 16 V62 o62_0 k o62_0.toList [] e e w =
    (M (e 0) fun t4 =>
    N (xv (xbin BinOp.neq 50 (Operand.tmp 4) (Operand.const (Value.pointer none)) t4 (Value.pointer none))) w fun t5 w =>
    k (Env.p e 5 t5) w) := nr (by kernel_rfl)
theorem o62_1_eq : opsW N M G 16 V62 o62_1 k o62_1.toList [] e e w =
    (M (e 0) fun t6 =>
    M (e 0) fun t7 =>
    M (e 1) fun t8 =>
    N (builtin Builtin.max #[2, 2] 2 ([false, true]).toArray ([t8, (Value.int IntKind.i64 0)]).toArray) w fun t9 w =>
    N (builtin Builtin.min #[2, 2] 2 ([false, true]).toArray ([t9, (Value.int IntKind.i64 1099511627776)]).toArray) w fun t10 w =>
    N (xv (Instr.makeMap 123 none)) w fun t11 w =>
    N (xnil t6) w fun t12 w =>
    N (xv (Instr.fieldAt 125 t12 0)) w fun t13 w =>
    N (xu (Instr.storeAt 2 t13 t10)) w fun _ w =>
    N (xnil t7) w fun t14 w =>
    N (xv (Instr.fieldAt 125 t14 2)) w fun t15 w =>
    N (xu (Instr.storeAt 123 t15 t11)) w fun _ w =>
    k e w) := nr (by kernel_rfl)
theorem c62_2_s (hw : Cur w) : W Try.prog 16 V62 c62_2 Q e w = (opsW (nx Try.prog) mv gdP 16 V62 o62_1 (fun e w => Q .normal e w) o62_1.toList [] e e w) := by rw [(by kernel_rfl : c62_2 = (.region 1 o62_1 false)), W_reg]
theorem c62_1_v : opV V62 (.tmp 5) = true := by kernel_rfl
theorem c62_1_s (hw : Cur w) : W Try.prog 16 V62 c62_1 Q e w = (condP (ev e (.tmp 5)) (W Try.prog 16 V62 c62_2 Q e w) (Q .normal e w)) := by rw [(by kernel_rfl : c62_1 = .cond (.tmp 5) c62_2 Code.skip), W_cond, c62_1_v, cond_true]; simp only [W_ret, W_skip, W_exit, W_label]
theorem c62_s (hw : Cur w) : W Try.prog 16 V62 c62 Q e w = (opsW (nx Try.prog) mv gdP 16 V62 o62_0 (fun e w => W Try.prog 16 V62 c62_1 Q e w) o62_0.toList [] e e w) := by rw [(by kernel_rfl : c62 = .seq (.region 0 o62_0 false) c62_1), W_seq_reg]
theorem call62 {a0 a1 : Value} {w : World} {R : Value → World → Prop} (h : W Try.prog 16 V62 c62 (retQ Try.prog [] R) (argE [a0, a1]) w) : CallsN Try.prog 62 [a0, a1] w R :=
  callsN_of_W (c := c62) (rs := []) V62 Try.ntmps62 (by rw [Try.results62]) mixed Try.func62 (by kernel_rfl) (by kernel_rfl) (by kernel_rfl) (by kernel_rfl) (by simp) h
noncomputable def hk62 := And.intro (@o62_0_eq) <| And.intro (@o62_1_eq) <| And.intro (@c62_2_s) <| And.intro (@c62_1_s) <| @c62_s
-- K62: ↓hk62
/-! ### (*vouch/gap.Gap[vouch/api.Record]) . Lacks -/
def V60 : Nat → Bool := fun i => [0, 2, 3, 8].elem i
noncomputable def c60 : Code := (Try.f60.body.getD .skip)
noncomputable def o60_0 : Array Oper := rO (cL c60)
noncomputable def c60_1 : Code := (cR c60)
noncomputable def o60_1 : Array Oper := rO (cL c60_1)
noncomputable def c60_2 : Code := (cR c60_1)
noncomputable def c60_3 : Code := (cR c60_2)
noncomputable def o60_4 : Array Oper := rO (cL c60_3)
noncomputable def c60_4 : Code := (cL c60_2)
noncomputable def o60_2 : Array Oper := rO (cL c60_4)
noncomputable def c60_5 : Code := (cR c60_4)
noncomputable def c60_6 : Code := (cL c60_5)
noncomputable def o60_3 : Array Oper := rO (cL c60_6)
theorem o60_0_eq : opsW N M G 19 V60 o60_0 k o60_0.toList [] e e w =
    (N (xv (Instr.alloc 86 true (.tuple #[]))) w fun t2 w =>
    k (Env.p e 2 t2) w) := nr (by kernel_rfl)
theorem o60_1_eq : opsW N M G 19 V60 o60_1 k o60_1.toList [] e e w =
    (M (e 0) fun t4 =>
    N (xcall (Value.func (Fn.func 39) #[] #[]) [t4]) w fun t5 w =>
    M t5 fun t3 =>
    k (Env.p e 3 t3) w) := nr (by kernel_rfl)
theorem o60_4_eq : drawGo N T M G H 19 V60 o60_4 S k o60_4.size true (Array.replicate o60_4.size false) [] e e w =
    (M (e 0) fun t10 =>
    T (xnil t10) fun t11 =>
    T (xv (Instr.fieldAt 125 t11 0)) fun t12 =>
    T (xv (Instr.loadAt 2 t12)) fun t13 =>
    T (xv (xbin BinOp.add 2 (Operand.tmp 13) (Operand.const (Value.int IntKind.i64 1)) t13 (Value.int IntKind.i64 1))) fun t14 =>
    M (e 3) fun t15 =>
    T (xv (Instr.indexAt 71 t15 (Value.int IntKind.i64 0))) fun t16 =>
    T (xv (Instr.loadAt 2 t16)) fun t17 =>
    N (xcall (Value.func (Fn.func 74) #[] #[]) [t14, t17]) w fun t18 w =>
    S w ∧ (N (xu (Instr.storeAt 86 (e 2) t18)) w fun _ w =>
    k e w)) := nr (by kernel_rfl)
theorem c60_3_s (hw : Cur w) : W Try.prog 19 V60 c60_3 Q e w = (∃ S : World → Prop, S w.drew ∧ drawGo (nx Try.prog) (takeP Try.prog S) mv gdP gdT 19 V60 o60_4 S (fun e w => Q .ret e w) o60_4.size true (Array.replicate o60_4.size false) [] e e w.drew) := by rw [(by kernel_rfl : c60_3 = .seq (.region 4 o60_4 true) Code.ret), W_seq_regD]; simp only [W_ret, W_skip, W_exit, W_label]
theorem o60_2_eq : opsW N M G 19 V60 o60_2 k o60_2.toList [] e e w =
    (M (e 3) fun t6 =>
    N (builtin Builtin.len #[71] 3 ([false]).toArray ([t6]).toArray) w fun t7 w =>
    N (xv (xbin BinOp.eql 3 (Operand.tmp 7) (Operand.const (Value.int IntKind.i64 0)) t7 (Value.int IntKind.i64 0))) w fun t8 w =>
    k (Env.p e 8 t8) w) := nr (by kernel_rfl)
theorem o60_3_eq : opsW N M G 19 V60 o60_3 k o60_3.toList [] e e w =
    (N (xv (Instr.build 86 ([]).toArray)) w fun t9 w =>
    N (xu (Instr.storeAt 86 (e 2) t9)) w fun _ w =>
    k e w) := nr (by kernel_rfl)
theorem c60_6_s (hw : Cur w) : W Try.prog 19 V60 c60_6 Q e w = (opsW (nx Try.prog) mv gdP 19 V60 o60_3 (fun e w => Q .ret e w) o60_3.toList [] e e w) := by rw [(by kernel_rfl : c60_6 = .seq (.region 3 o60_3 false) Code.ret), W_seq_reg]; simp only [W_ret, W_skip, W_exit, W_label]
theorem c60_5_v : opV V60 (.tmp 8) = true := by kernel_rfl
theorem c60_5_s (hw : Cur w) : W Try.prog 19 V60 c60_5 Q e w = (condP (ev e (.tmp 8)) (W Try.prog 19 V60 c60_6 Q e w) (Q .normal e w)) := by rw [(by kernel_rfl : c60_5 = .cond (.tmp 8) c60_6 Code.skip), W_cond, c60_5_v, cond_true]; simp only [W_ret, W_skip, W_exit, W_label]
theorem c60_4_s (hw : Cur w) : W Try.prog 19 V60 c60_4 Q e w = (opsW (nx Try.prog) mv gdP 19 V60 o60_2 (fun e w => W Try.prog 19 V60 c60_5 Q e w) o60_2.toList [] e e w) := by rw [(by kernel_rfl : c60_4 = .seq (.region 2 o60_2 false) c60_5), W_seq_reg]
theorem c60_2_s (hw : Cur w) : W Try.prog 19 V60 c60_2 Q e w = (W Try.prog 19 V60 c60_4 (seqQ (fun e w => W Try.prog 19 V60 c60_3 Q e w) Q) e w) := by rw [(by kernel_rfl : c60_2 = .seq c60_4 c60_3), W_seq]
theorem c60_1_s (hw : Cur w) : W Try.prog 19 V60 c60_1 Q e w = (opsW (nx Try.prog) mv gdP 19 V60 o60_1 (fun e w => W Try.prog 19 V60 c60_2 Q e w) o60_1.toList [] e e w) := by rw [(by kernel_rfl : c60_1 = .seq (.region 1 o60_1 false) c60_2), W_seq_reg]
theorem c60_s (hw : Cur w) : W Try.prog 19 V60 c60 Q e w = (opsW (nx Try.prog) mv gdP 19 V60 o60_0 (fun e w => W Try.prog 19 V60 c60_1 Q e w) o60_0.toList [] e e w) := by rw [(by kernel_rfl : c60 = .seq (.region 0 o60_0 false) c60_1), W_seq_reg]
theorem call60 {a0 : Value} {w : World} {R : Value → World → Prop} (h : W Try.prog 19 V60 c60 (retQ Try.prog [.cell 2 86] R) (argE [a0]) w) : CallsN Try.prog 60 [a0] w R :=
  callsN_of_W (c := c60) (rs := [.cell 2 86]) V60 Try.ntmps60 (by rw [Try.results60]) mixed Try.func60 (by kernel_rfl) (by kernel_rfl) (by kernel_rfl) (by kernel_rfl) (by simp) h
noncomputable def hk60 := And.intro (@o60_0_eq) <| And.intro (@o60_1_eq) <| And.intro (@o60_4_eq) <| And.intro (@c60_3_s) <| And.intro (@o60_2_eq) <| And.intro (@o60_3_eq) <| And.intro (@c60_6_s) <| And.intro (@c60_5_s) <| And.intro (@c60_4_s) <| And.intro (@c60_2_s) <| And.intro (@c60_1_s) <| @c60_s
-- K60: ↓hk60
/-! ### (*vouch/gap.Gap[vouch/api.Record]) . Waits -/
def V39 : Nat → Bool := fun i => [0, 2, 4].elem i
noncomputable def c39 : Code := (Try.f39.body.getD .skip)
noncomputable def o39_0 : Array Oper := rO (cL c39)
noncomputable def c39_1 : Code := (cR c39)
noncomputable def c39_2 : Code := (cR c39_1)
noncomputable def o39_3 : Array Oper := rO (cL c39_2)
noncomputable def c39_3 : Code := (cL c39_1)
noncomputable def o39_1 : Array Oper := rO (cL c39_3)
noncomputable def c39_4 : Code := (cR c39_3)
noncomputable def c39_5 : Code := (cL c39_4)
noncomputable def o39_2 : Array Oper := rO (cL c39_5)
theorem o39_0_eq : opsW N M G 11 V39 o39_0 k o39_0.toList [] e e w =
    (M (Value.slice none 0 0) fun t2 =>
    k (Env.p e 2 t2) w) := nr (by kernel_rfl)
theorem o39_3_eq : opsW N M G 11 V39 o39_3 k o39_3.toList [] e e w =
    (M (e 0) fun t5 =>
    N (xnil t5) w fun t6 w =>
    N (xv (Instr.fieldAt 125 t6 2)) w fun t7 w =>
    N (xv (Instr.loadAt 123 t7)) w fun t8 w =>
    N (xcall (Value.func (Fn.func 73) #[] #[]) [t8]) w fun t9 w =>
    N (xcall (Value.func (Fn.func 67) #[] #[]) [t9]) w fun t10 w =>
    M t10 fun t2 =>
    k (Env.p e 2 t2) w) := nr (by kernel_rfl)
theorem c39_2_s (hw : Cur w) : W Try.prog 11 V39 c39_2 Q e w = (opsW (nx Try.prog) mv gdP 11 V39 o39_3 (fun e w => Q .ret e w) o39_3.toList [] e e w) := by rw [(by kernel_rfl : c39_2 = .seq (.region 3 o39_3 false) Code.ret), W_seq_reg]; simp only [W_ret, W_skip, W_exit, W_label]
theorem o39_1_eq : opsW N M G 11 V39 o39_1 k o39_1.toList [] e e w =
    (M (e 0) fun t3 =>
    N (xv (xbin BinOp.eql 50 (Operand.tmp 3) (Operand.const (Value.pointer none)) t3 (Value.pointer none))) w fun t4 w =>
    k (Env.p e 4 t4) w) := nr (by kernel_rfl)
theorem o39_2_eq : opsW N M G 11 V39 o39_2 k o39_2.toList [] e e w =
    (M (Value.slice none 0 0) fun t2 =>
    k (Env.p e 2 t2) w) := nr (by kernel_rfl)
theorem c39_5_s (hw : Cur w) : W Try.prog 11 V39 c39_5 Q e w = (opsW (nx Try.prog) mv gdP 11 V39 o39_2 (fun e w => Q .ret e w) o39_2.toList [] e e w) := by rw [(by kernel_rfl : c39_5 = .seq (.region 2 o39_2 false) Code.ret), W_seq_reg]; simp only [W_ret, W_skip, W_exit, W_label]
theorem c39_4_v : opV V39 (.tmp 4) = true := by kernel_rfl
theorem c39_4_s (hw : Cur w) : W Try.prog 11 V39 c39_4 Q e w = (condP (ev e (.tmp 4)) (W Try.prog 11 V39 c39_5 Q e w) (Q .normal e w)) := by rw [(by kernel_rfl : c39_4 = .cond (.tmp 4) c39_5 Code.skip), W_cond, c39_4_v, cond_true]; simp only [W_ret, W_skip, W_exit, W_label]
theorem c39_3_s (hw : Cur w) : W Try.prog 11 V39 c39_3 Q e w = (opsW (nx Try.prog) mv gdP 11 V39 o39_1 (fun e w => W Try.prog 11 V39 c39_4 Q e w) o39_1.toList [] e e w) := by rw [(by kernel_rfl : c39_3 = .seq (.region 1 o39_1 false) c39_4), W_seq_reg]
theorem c39_1_s (hw : Cur w) : W Try.prog 11 V39 c39_1 Q e w = (W Try.prog 11 V39 c39_3 (seqQ (fun e w => W Try.prog 11 V39 c39_2 Q e w) Q) e w) := by rw [(by kernel_rfl : c39_1 = .seq c39_3 c39_2), W_seq]
theorem c39_s (hw : Cur w) : W Try.prog 11 V39 c39 Q e w = (opsW (nx Try.prog) mv gdP 11 V39 o39_0 (fun e w => W Try.prog 11 V39 c39_1 Q e w) o39_0.toList [] e e w) := by rw [(by kernel_rfl : c39 = .seq (.region 0 o39_0 false) c39_1), W_seq_reg]
theorem call39 {a0 : Value} {w : World} {R : Value → World → Prop} (h : W Try.prog 11 V39 c39 (retQ Try.prog [.tmp 2] R) (argE [a0]) w) : CallsN Try.prog 39 [a0] w R :=
  callsN_of_W (c := c39) (rs := [.tmp 2]) V39 Try.ntmps39 (by rw [Try.results39]) mixed Try.func39 (by kernel_rfl) (by kernel_rfl) (by kernel_rfl) (by kernel_rfl) (by simp) h
noncomputable def hk39 := And.intro (@o39_0_eq) <| And.intro (@o39_3_eq) <| And.intro (@c39_2_s) <| And.intro (@o39_1_eq) <| And.intro (@o39_2_eq) <| And.intro (@c39_5_s) <| And.intro (@c39_4_s) <| And.intro (@c39_3_s) <| And.intro (@c39_1_s) <| @c39_s
-- K39: ↓hk39
/-! ### vouch/span.Of[int64] -/
def V74 : Nat → Bool := fun i => [0, 1, 4, 7].elem i
noncomputable def c74 : Code := (Try.f74.body.getD .skip)
noncomputable def o74_0 : Array Oper := rO (cL c74)
noncomputable def c74_1 : Code := (cR c74)
noncomputable def c74_2 : Code := (cR c74_1)
noncomputable def o74_3 : Array Oper := rO (cL c74_2)
noncomputable def c74_3 : Code := (cL c74_1)
noncomputable def o74_1 : Array Oper := rO (cL c74_3)
noncomputable def c74_4 : Code := (cR c74_3)
noncomputable def c74_5 : Code := (cL c74_4)
noncomputable def o74_2 : Array Oper := rO (cL c74_5)
theorem o74_0_eq : opsW N M G 12 V74 o74_0 k o74_0.toList [] e e w =
    (N (xv (Instr.alloc 86 true (.tuple #[]))) w fun t4 w =>
    k (Env.p e 4 t4) w) := nr (by kernel_rfl)
theorem o74_3_eq : opsW N M G 12 V74 o74_3 k o74_3.toList [] e e w =
    (M (e 0) fun t9 =>
    M (e 1) fun t10 =>
    N (xv (Instr.build 86 ([(0, t9), (1, t10)]).toArray)) w fun t11 w =>
    N (xu (Instr.storeAt 86 (e 4) t11)) w fun _ w =>
    k e w) := nr (by kernel_rfl)
theorem c74_2_s (hw : Cur w) : W Try.prog 12 V74 c74_2 Q e w = (opsW (nx Try.prog) mv gdP 12 V74 o74_3 (fun e w => Q .ret e w) o74_3.toList [] e e w) := by rw [(by kernel_rfl : c74_2 = .seq (.region 3 o74_3 false) Code.ret), W_seq_reg]; simp only [W_ret, W_skip, W_exit, W_label]
theorem o74_1_eq : opsW N M G 12 V74 o74_1 k o74_1.toList [] e e w =
    (M (e 0) fun t5 =>
    M (e 1) fun t6 =>
    N (xv (xbin BinOp.geq 2 (Operand.tmp 5) (Operand.tmp 6) t5 t6)) w fun t7 w =>
    k (Env.p e 7 t7) w) := nr (by kernel_rfl)
theorem o74_2_eq : opsW N M G 12 V74 o74_2 k o74_2.toList [] e e w =
    (N (xv (Instr.build 86 ([]).toArray)) w fun t8 w =>
    N (xu (Instr.storeAt 86 (e 4) t8)) w fun _ w =>
    k e w) := nr (by kernel_rfl)
theorem c74_5_s (hw : Cur w) : W Try.prog 12 V74 c74_5 Q e w = (opsW (nx Try.prog) mv gdP 12 V74 o74_2 (fun e w => Q .ret e w) o74_2.toList [] e e w) := by rw [(by kernel_rfl : c74_5 = .seq (.region 2 o74_2 false) Code.ret), W_seq_reg]; simp only [W_ret, W_skip, W_exit, W_label]
theorem c74_4_v : opV V74 (.tmp 7) = true := by kernel_rfl
theorem c74_4_s (hw : Cur w) : W Try.prog 12 V74 c74_4 Q e w = (condP (ev e (.tmp 7)) (W Try.prog 12 V74 c74_5 Q e w) (Q .normal e w)) := by rw [(by kernel_rfl : c74_4 = .cond (.tmp 7) c74_5 Code.skip), W_cond, c74_4_v, cond_true]; simp only [W_ret, W_skip, W_exit, W_label]
theorem c74_3_s (hw : Cur w) : W Try.prog 12 V74 c74_3 Q e w = (opsW (nx Try.prog) mv gdP 12 V74 o74_1 (fun e w => W Try.prog 12 V74 c74_4 Q e w) o74_1.toList [] e e w) := by rw [(by kernel_rfl : c74_3 = .seq (.region 1 o74_1 false) c74_4), W_seq_reg]
theorem c74_1_s (hw : Cur w) : W Try.prog 12 V74 c74_1 Q e w = (W Try.prog 12 V74 c74_3 (seqQ (fun e w => W Try.prog 12 V74 c74_2 Q e w) Q) e w) := by rw [(by kernel_rfl : c74_1 = .seq c74_3 c74_2), W_seq]
theorem c74_s (hw : Cur w) : W Try.prog 12 V74 c74 Q e w = (opsW (nx Try.prog) mv gdP 12 V74 o74_0 (fun e w => W Try.prog 12 V74 c74_1 Q e w) o74_0.toList [] e e w) := by rw [(by kernel_rfl : c74 = .seq (.region 0 o74_0 false) c74_1), W_seq_reg]
theorem call74 {a0 a1 : Value} {w : World} {R : Value → World → Prop} (h : W Try.prog 12 V74 c74 (retQ Try.prog [.cell 4 86] R) (argE [a0, a1]) w) : CallsN Try.prog 74 [a0, a1] w R :=
  callsN_of_W (c := c74) (rs := [.cell 4 86]) V74 Try.ntmps74 (by rw [Try.results74]) mixed Try.func74 (by kernel_rfl) (by kernel_rfl) (by kernel_rfl) (by kernel_rfl) (by simp) h
noncomputable def hk74 := And.intro (@o74_0_eq) <| And.intro (@o74_3_eq) <| And.intro (@c74_2_s) <| And.intro (@o74_1_eq) <| And.intro (@o74_2_eq) <| And.intro (@c74_5_s) <| And.intro (@c74_4_s) <| And.intro (@c74_3_s) <| And.intro (@c74_1_s) <| @c74_s
-- K74: ↓hk74
/-! ### vouch/vouchlaw07.fixed -/
def V25 : Nat → Bool := fun i => [0, 1, 2, 3, 4, 5, 6, 9].elem i
noncomputable def c25 : Code := (Try.f25.body.getD .skip)
noncomputable def o25_0 : Array Oper := rO (cL c25)
noncomputable def c25_1 : Code := (cR c25)
noncomputable def o25_1 : Array Oper := rO (cL c25_1)
noncomputable def c25_2 : Code := (cR c25_1)
noncomputable def c25_3 : Code := (cR c25_2)
noncomputable def o25_4 : Array Oper := rO (cL c25_3)
noncomputable def c25_4 : Code := (cR c25_3)
noncomputable def o25_5 : Array Oper := rO (cL c25_4)
noncomputable def c25_5 : Code := (cR c25_4)
noncomputable def o25_6 : Array Oper := rO (cL c25_5)
noncomputable def c25_6 : Code := (cR c25_5)
noncomputable def o25_7 : Array Oper := rO (cL c25_6)
noncomputable def c25_7 : Code := (cL c25_2)
noncomputable def o25_2 : Array Oper := rO (cL c25_7)
noncomputable def c25_8 : Code := (cR c25_7)
noncomputable def c25_9 : Code := (cL c25_8)
noncomputable def o25_3 : Array Oper := rO (cL c25_9)
theorem o25_0_eq : opsW N M G 52 V25 o25_0 k o25_0.toList [] e e w =
    (M (Value.bool false) fun t0 =>
    k (Env.p e 0 t0) w) := nr (by kernel_rfl)
theorem o25_1_eq : opsW N M G 52 V25 o25_1 k o25_1.toList [] e e w =
    (N (xcall (Value.func (Fn.func 26) #[] #[]) [(Value.int IntKind.i64 4), (Value.int IntKind.i64 2)]) w fun t7 w =>
    M t7 fun t1 =>
    k (Env.p e 1 t1) w) := nr (by kernel_rfl)
theorem o25_4_eq : opsW N M G 52 V25 o25_4 k o25_4.toList [] e e w =
    (M (e 1) fun t11 =>
    N (xcall (Value.func (Fn.func 59) #[] #[]) [(Value.int IntKind.i64 6), (Value.string ⟨#[102]⟩)]) w fun t12 w =>
    N (xcall (Value.func (Fn.func 58) #[] #[]) [t11, (Value.int IntKind.i64 6), t12]) w fun t13 w =>
    M t13 fun t10 =>
    N (xv (Instr.extract t10 0)) w fun t14 w =>
    N (xv (Instr.extract t10 1)) w fun t15 w =>
    M t14 fun t2 =>
    M t15 fun t3 =>
    k (Env.p (Env.p e 2 t2) 3 t3) w) := nr (by kernel_rfl)
theorem o25_5_eq : opsW N M G 52 V25 o25_5 k o25_5.toList [] e e w =
    (M (e 1) fun t16 =>
    N (xcall (Value.func (Fn.func 60) #[] #[]) [t16]) w fun t17 w =>
    N (xv (Instr.alloc 86 true (.tuple #[]))) w fun t4 w =>
    N (xu (Instr.storeAt 86 t4 t17)) w fun _ w =>
    k (Env.p e 4 t4) w) := nr (by kernel_rfl)
theorem o25_6_eq : opsW N M G 52 V25 o25_6 k o25_6.toList [] e e w =
    (M (e 1) fun t19 =>
    N (xcall (Value.func (Fn.func 59) #[] #[]) [(Value.int IntKind.i64 5), (Value.string ⟨#[101]⟩)]) w fun t20 w =>
    N (xcall (Value.func (Fn.func 58) #[] #[]) [t19, (Value.int IntKind.i64 5), t20]) w fun t21 w =>
    M t21 fun t18 =>
    N (xv (Instr.extract t18 0)) w fun t22 w =>
    N (xv (Instr.extract t18 1)) w fun t23 w =>
    M t22 fun t5 =>
    M t23 fun t6 =>
    k (Env.p (Env.p e 5 t5) 6 t6) w) := nr (by kernel_rfl)
theorem o25_7_eq : opsW N M G 52 V25 o25_7 k o25_7.toList [] e e w =
    (M (e 2) fun t24 =>
    N (builtin Builtin.len #[60] 3 ([false]).toArray ([t24]).toArray) w fun t25 w =>
    N (xv (xbin BinOp.eql 3 (Operand.tmp 25) (Operand.const (Value.int IntKind.i64 0)) t25 (Value.int IntKind.i64 0))) w fun t26 w =>
    M t26 fun t27 =>
    G (isB t27 true) (fun K => M (e 3) fun v => K v w) (fun t28 w =>
    G (isB t27 true) (fun K => N (xv (Op.unary UnOp.not t28)) w K) (fun t29 w =>
    N (xpick t27 t29 (Value.bool false)) w fun t30 w =>
    M t30 fun t31 =>
    G (isB t31 true) (fun K => N (xv (Instr.loadAt 86 (e 4))) w K) (fun t32 w =>
    G (isB t31 true) (fun K => N (xv (Instr.build 86 ([(0, (Value.int IntKind.i64 5)), (1, (Value.int IntKind.i64 6))]).toArray)) w K) (fun t33 w =>
    G (isB t31 true) (fun K => N (xv (xbin BinOp.eql 86 (Operand.tmp 32) (Operand.tmp 33) t32 t33)) w K) (fun t34 w =>
    N (xpick t31 t34 (Value.bool false)) w fun t35 w =>
    M t35 fun t36 =>
    G (isB t36 true) (fun K => M (e 5) fun v => K v w) (fun t37 w =>
    G (isB t36 true) (fun K => N (xcall (Value.func (Fn.func 59) #[] #[]) [(Value.int IntKind.i64 5), (Value.string ⟨#[101]⟩)]) w K) (fun t38 w =>
    G (isB t36 true) (fun K => N (xcall (Value.func (Fn.func 59) #[] #[]) [(Value.int IntKind.i64 6), (Value.string ⟨#[102]⟩)]) w K) (fun t39 w =>
    G (isB t36 true) (fun K => N (xv (Instr.buildSlice 60 2 ([(0, t38), (1, t39)]).toArray)) w K) (fun t40 w =>
    G (isB t36 true) (fun K => N (xcall (Value.func (Fn.func 61) #[] #[]) [t37, t40]) w K) (fun t41 w =>
    N (xpick t36 t41 (Value.bool false)) w fun t42 w =>
    M t42 fun t43 =>
    G (isB t43 true) (fun K => M (e 6) fun v => K v w) (fun t44 w =>
    G (isB t43 true) (fun K => N (xv (Op.unary UnOp.not t44)) w K) (fun t45 w =>
    N (xpick t43 t45 (Value.bool false)) w fun t46 w =>
    M t46 fun t47 =>
    G (isB t47 true) (fun K => M (e 1) fun v => K v w) (fun t48 w =>
    G (isB t47 true) (fun K => N (xcall (Value.func (Fn.func 29) #[] #[]) [t48]) w K) (fun t49 w =>
    G (isB t47 true) (fun K => N (xv (xbin BinOp.eql 2 (Operand.tmp 49) (Operand.const (Value.int IntKind.i64 6)) t49 (Value.int IntKind.i64 6))) w K) (fun t50 w =>
    N (xpick t47 t50 (Value.bool false)) w fun t51 w =>
    M t51 fun t0 =>
    k (Env.p e 0 t0) w) w) w) w) w) w) w) w) w) w) w) w) w) w) w) w) := nr (by kernel_rfl)
theorem c25_6_s (hw : Cur w) : W Try.prog 52 V25 c25_6 Q e w = (opsW (nx Try.prog) mv gdP 52 V25 o25_7 (fun e w => Q .ret e w) o25_7.toList [] e e w) := by rw [(by kernel_rfl : c25_6 = .seq (.region 7 o25_7 false) Code.ret), W_seq_reg]; simp only [W_ret, W_skip, W_exit, W_label]
theorem c25_5_s (hw : Cur w) : W Try.prog 52 V25 c25_5 Q e w = (opsW (nx Try.prog) mv gdP 52 V25 o25_6 (fun e w => W Try.prog 52 V25 c25_6 Q e w) o25_6.toList [] e e w) := by rw [(by kernel_rfl : c25_5 = .seq (.region 6 o25_6 false) c25_6), W_seq_reg]
theorem c25_4_s (hw : Cur w) : W Try.prog 52 V25 c25_4 Q e w = (opsW (nx Try.prog) mv gdP 52 V25 o25_5 (fun e w => W Try.prog 52 V25 c25_5 Q e w) o25_5.toList [] e e w) := by rw [(by kernel_rfl : c25_4 = .seq (.region 5 o25_5 false) c25_5), W_seq_reg]
theorem c25_3_s (hw : Cur w) : W Try.prog 52 V25 c25_3 Q e w = (opsW (nx Try.prog) mv gdP 52 V25 o25_4 (fun e w => W Try.prog 52 V25 c25_4 Q e w) o25_4.toList [] e e w) := by rw [(by kernel_rfl : c25_3 = .seq (.region 4 o25_4 false) c25_4), W_seq_reg]
theorem o25_2_eq : opsW N M G 52 V25 o25_2 k o25_2.toList [] e e w =
    (M (e 1) fun t8 =>
    N (xv (xbin BinOp.eql 50 (Operand.tmp 8) (Operand.const (Value.pointer none)) t8 (Value.pointer none))) w fun t9 w =>
    k (Env.p e 9 t9) w) := nr (by kernel_rfl)
theorem o25_3_eq : opsW N M G 52 V25 o25_3 k o25_3.toList [] e e w =
    (M (Value.bool false) fun t0 =>
    k (Env.p e 0 t0) w) := nr (by kernel_rfl)
theorem c25_9_s (hw : Cur w) : W Try.prog 52 V25 c25_9 Q e w = (opsW (nx Try.prog) mv gdP 52 V25 o25_3 (fun e w => Q .ret e w) o25_3.toList [] e e w) := by rw [(by kernel_rfl : c25_9 = .seq (.region 3 o25_3 false) Code.ret), W_seq_reg]; simp only [W_ret, W_skip, W_exit, W_label]
theorem c25_8_v : opV V25 (.tmp 9) = true := by kernel_rfl
theorem c25_8_s (hw : Cur w) : W Try.prog 52 V25 c25_8 Q e w = (condP (ev e (.tmp 9)) (W Try.prog 52 V25 c25_9 Q e w) (Q .normal e w)) := by rw [(by kernel_rfl : c25_8 = .cond (.tmp 9) c25_9 Code.skip), W_cond, c25_8_v, cond_true]; simp only [W_ret, W_skip, W_exit, W_label]
theorem c25_7_s (hw : Cur w) : W Try.prog 52 V25 c25_7 Q e w = (opsW (nx Try.prog) mv gdP 52 V25 o25_2 (fun e w => W Try.prog 52 V25 c25_8 Q e w) o25_2.toList [] e e w) := by rw [(by kernel_rfl : c25_7 = .seq (.region 2 o25_2 false) c25_8), W_seq_reg]
theorem c25_2_s (hw : Cur w) : W Try.prog 52 V25 c25_2 Q e w = (W Try.prog 52 V25 c25_7 (seqQ (fun e w => W Try.prog 52 V25 c25_3 Q e w) Q) e w) := by rw [(by kernel_rfl : c25_2 = .seq c25_7 c25_3), W_seq]
theorem c25_1_s (hw : Cur w) : W Try.prog 52 V25 c25_1 Q e w = (opsW (nx Try.prog) mv gdP 52 V25 o25_1 (fun e w => W Try.prog 52 V25 c25_2 Q e w) o25_1.toList [] e e w) := by rw [(by kernel_rfl : c25_1 = .seq (.region 1 o25_1 false) c25_2), W_seq_reg]
theorem c25_s (hw : Cur w) : W Try.prog 52 V25 c25 Q e w = (opsW (nx Try.prog) mv gdP 52 V25 o25_0 (fun e w => W Try.prog 52 V25 c25_1 Q e w) o25_0.toList [] e e w) := by rw [(by kernel_rfl : c25 = .seq (.region 0 o25_0 false) c25_1), W_seq_reg]
theorem call25 {w : World} {R : Value → World → Prop} (h : W Try.prog 52 V25 c25 (retQ Try.prog [.tmp 0] R) (argE []) w) : CallsN Try.prog 25 [] w R :=
  callsN_of_W (c := c25) (rs := [.tmp 0]) V25 Try.ntmps25 (by rw [Try.results25]) mixed Try.func25 (by kernel_rfl) (by kernel_rfl) (by kernel_rfl) (by kernel_rfl) (by simp) h
noncomputable def hk25 := And.intro (@o25_0_eq) <| And.intro (@o25_1_eq) <| And.intro (@o25_4_eq) <| And.intro (@o25_5_eq) <| And.intro (@o25_6_eq) <| And.intro (@o25_7_eq) <| And.intro (@c25_6_s) <| And.intro (@c25_5_s) <| And.intro (@c25_4_s) <| And.intro (@c25_3_s) <| And.intro (@o25_2_eq) <| And.intro (@o25_3_eq) <| And.intro (@c25_9_s) <| And.intro (@c25_8_s) <| And.intro (@c25_7_s) <| And.intro (@c25_2_s) <| And.intro (@c25_1_s) <| @c25_s
-- K25: ↓hk25
/-! ### vouch/vouchlaw07.one -/
def V59 : Nat → Bool := fun i => [0, 1, 4].elem i
noncomputable def c59 : Code := (Try.f59.body.getD .skip)
noncomputable def o59_0 : Array Oper := rO (cL c59)
noncomputable def c59_1 : Code := (cR c59)
noncomputable def o59_1 : Array Oper := rO (cL c59_1)
theorem o59_0_eq : opsW N M G 9 V59 o59_0 k o59_0.toList [] e e w =
    (N (xv (Instr.alloc 54 true (.tuple #[]))) w fun t4 w =>
    k (Env.p e 4 t4) w) := nr (by kernel_rfl)
theorem o59_1_eq : opsW N M G 9 V59 o59_1 k o59_1.toList [] e e w =
    (M (e 0) fun t5 =>
    M (e 1) fun t6 =>
    N (xv (Instr.buildSlice 52 1 ([(0, t6)]).toArray)) w fun t7 w =>
    N (xv (Instr.build 54 ([(0, t5), (1, t7)]).toArray)) w fun t8 w =>
    N (xu (Instr.storeAt 54 (e 4) t8)) w fun _ w =>
    k e w) := nr (by kernel_rfl)
theorem c59_1_s (hw : Cur w) : W Try.prog 9 V59 c59_1 Q e w = (opsW (nx Try.prog) mv gdP 9 V59 o59_1 (fun e w => Q .ret e w) o59_1.toList [] e e w) := by rw [(by kernel_rfl : c59_1 = .seq (.region 1 o59_1 false) Code.ret), W_seq_reg]; simp only [W_ret, W_skip, W_exit, W_label]
theorem c59_s (hw : Cur w) : W Try.prog 9 V59 c59 Q e w = (opsW (nx Try.prog) mv gdP 9 V59 o59_0 (fun e w => W Try.prog 9 V59 c59_1 Q e w) o59_0.toList [] e e w) := by rw [(by kernel_rfl : c59 = .seq (.region 0 o59_0 false) c59_1), W_seq_reg]
theorem call59 {a0 a1 : Value} {w : World} {R : Value → World → Prop} (h : W Try.prog 9 V59 c59 (retQ Try.prog [.cell 4 54] R) (argE [a0, a1]) w) : CallsN Try.prog 59 [a0, a1] w R :=
  callsN_of_W (c := c59) (rs := [.cell 4 54]) V59 Try.ntmps59 (by rw [Try.results59]) mixed Try.func59 (by kernel_rfl) (by kernel_rfl) (by kernel_rfl) (by kernel_rfl) (by simp) h
noncomputable def hk59 := And.intro (@o59_0_eq) <| And.intro (@o59_1_eq) <| And.intro (@c59_1_s) <| @c59_s
-- K59: ↓hk59
/-! ### vouch/vouchref06.Same -/
def V86 : Nat → Bool := fun i => [0, 1, 2, 3, 4, 5, 19, 24, 37].elem i
noncomputable def c86 : Code := (Try.f86.body.getD .skip)
noncomputable def o86_0 : Array Oper := rO (cL c86)
noncomputable def c86_1 : Code := (cR c86)
noncomputable def c86_2 : Code := (cR c86_1)
noncomputable def c86_3 : Code := (cR c86_2)
noncomputable def o86_8 : Array Oper := rO (cL c86_3)
noncomputable def c86_4 : Code := (cL c86_2)
noncomputable def o86_3 : Array Oper := rO (cL c86_4)
noncomputable def c86_5 : Code := (cR c86_4)
noncomputable def c86_6 : Code := (cL c86_5)
noncomputable def c86_7 : Code := (cL c86_6)
noncomputable def c86_8 : Code := (cR c86_7)
noncomputable def c86_9 : Code := (cR c86_8)
noncomputable def o86_5 : Array Oper := rO c86_9
noncomputable def c86_10 : Code := (cL c86_8)
noncomputable def c86_11 : Code := (cL c86_10)
noncomputable def o86_6 : Array Oper := rO (cL c86_11)
noncomputable def c86_12 : Code := (cR c86_11)
noncomputable def c86_13 : Code := (cL c86_12)
noncomputable def o86_7 : Array Oper := rO (cL c86_13)
noncomputable def c86_14 : Code := (cL c86_7)
noncomputable def o86_4 : Array Oper := rO (cL c86_14)
noncomputable def c86_15 : Code := (cR c86_14)
noncomputable def c86_16 : Code := (cL c86_1)
noncomputable def o86_1 : Array Oper := rO (cL c86_16)
noncomputable def c86_17 : Code := (cR c86_16)
noncomputable def c86_18 : Code := (cL c86_17)
noncomputable def o86_2 : Array Oper := rO (cL c86_18)
theorem o86_0_eq : opsW N M G 38 V86 o86_0 k o86_0.toList [] e e w =
    (N (xv (Instr.box 54 (e 0))) w fun t2 w =>
    N (xv (Instr.box 54 (e 1))) w fun t3 w =>
    M (Value.bool false) fun t4 =>
    k (Env.p (Env.p (Env.p e 2 t2) 3 t3) 4 t4) w) := nr (by kernel_rfl)
theorem o86_8_eq : opsW N M G 38 V86 o86_8 k o86_8.toList [] e e w =
    (M (Value.bool true) fun t4 =>
    k (Env.p e 4 t4) w) := nr (by kernel_rfl)
theorem c86_3_s (hw : Cur w) : W Try.prog 38 V86 c86_3 Q e w = (opsW (nx Try.prog) mv gdP 38 V86 o86_8 (fun e w => Q .ret e w) o86_8.toList [] e e w) := by rw [(by kernel_rfl : c86_3 = .seq (.region 8 o86_8 false) Code.ret), W_seq_reg]; simp only [W_ret, W_skip, W_exit, W_label]
theorem o86_3_eq : opsW N M G 38 V86 o86_3 k o86_3.toList [] e e w =
    (M (Value.int IntKind.i64 0) fun t5 =>
    k (Env.p e 5 t5) w) := nr (by kernel_rfl)
theorem o86_5_eq : opsW N M G 38 V86 o86_5 k o86_5.toList [] e e w =
    (M (e 5) fun t25 =>
    N (xv (xbin BinOp.add 3 (Operand.tmp 25) (Operand.const (Value.int IntKind.i64 1)) t25 (Value.int IntKind.i64 1))) w fun t26 w =>
    M t26 fun t5 =>
    k (Env.p e 5 t5) w) := nr (by kernel_rfl)
theorem c86_9_s (hw : Cur w) : W Try.prog 38 V86 c86_9 Q e w = (opsW (nx Try.prog) mv gdP 38 V86 o86_5 (fun e w => Q .normal e w) o86_5.toList [] e e w) := by rw [(by kernel_rfl : c86_9 = (.region 5 o86_5 false)), W_reg]
theorem o86_6_eq : drawGo N T M G H 38 V86 o86_6 S k o86_6.size true (Array.replicate o86_6.size false) [] e e w =
    (T (xv (Instr.fieldAt 54 (e 2) 1)) fun t27 =>
    T (xv (Instr.loadAt 52 t27)) fun t28 =>
    M (e 5) fun t29 =>
    T (xv (Instr.indexAt 52 t28 t29)) fun t30 =>
    T (xv (Instr.loadAt 9 t30)) fun t31 =>
    T (xv (Instr.fieldAt 54 (e 3) 1)) fun t32 =>
    T (xv (Instr.loadAt 52 t32)) fun t33 =>
    M (e 5) fun t34 =>
    T (xv (Instr.indexAt 52 t33 t34)) fun t35 =>
    T (xv (Instr.loadAt 9 t35)) fun t36 =>
    T (xv (xbin BinOp.neq 9 (Operand.tmp 31) (Operand.tmp 36) t31 t36)) fun t37 =>
    k (Env.p e 37 t37) w) := nr (by kernel_rfl)
theorem o86_7_eq : opsW N M G 38 V86 o86_7 k o86_7.toList [] e e w =
    (M (Value.bool false) fun t4 =>
    k (Env.p e 4 t4) w) := nr (by kernel_rfl)
theorem c86_13_s (hw : Cur w) : W Try.prog 38 V86 c86_13 Q e w = (opsW (nx Try.prog) mv gdP 38 V86 o86_7 (fun e w => Q .ret e w) o86_7.toList [] e e w) := by rw [(by kernel_rfl : c86_13 = .seq (.region 7 o86_7 false) Code.ret), W_seq_reg]; simp only [W_ret, W_skip, W_exit, W_label]
theorem c86_12_v : opV V86 (.tmp 37) = true := by kernel_rfl
theorem c86_12_s (hw : Cur w) : W Try.prog 38 V86 c86_12 Q e w = (condP (ev e (.tmp 37)) (W Try.prog 38 V86 c86_13 Q e w) (Q .normal e w)) := by rw [(by kernel_rfl : c86_12 = .cond (.tmp 37) c86_13 Code.skip), W_cond, c86_12_v, cond_true]; simp only [W_ret, W_skip, W_exit, W_label]
theorem c86_11_s (hw : Cur w) : W Try.prog 38 V86 c86_11 Q e w = (∃ S : World → Prop, S w.drew ∧ drawGo (nx Try.prog) (takeP Try.prog S) mv gdP gdT 38 V86 o86_6 S (fun e w => W Try.prog 38 V86 c86_12 Q e w) o86_6.size true (Array.replicate o86_6.size false) [] e e w.drew) := by rw [(by kernel_rfl : c86_11 = .seq (.region 6 o86_6 true) c86_12), W_seq_regD]
theorem c86_10_s (hw : Cur w) : W Try.prog 38 V86 c86_10 Q e w = (W Try.prog 38 V86 c86_11 (blockQ 1 Q) e w) := by rw [(by kernel_rfl : c86_10 = .block 1 c86_11), W_block]
theorem c86_8_s (hw : Cur w) : W Try.prog 38 V86 c86_8 Q e w = (W Try.prog 38 V86 c86_10 (seqQ (fun e w => W Try.prog 38 V86 c86_9 Q e w) Q) e w) := by rw [(by kernel_rfl : c86_8 = .seq c86_10 c86_9), W_seq]
theorem o86_4_eq : opsW N M G 38 V86 o86_4 k o86_4.toList [] e e w =
    (M (e 5) fun t20 =>
    N (xv (Instr.fieldAt 54 (e 2) 1)) w fun t21 w =>
    N (xv (Instr.loadAt 52 t21)) w fun t22 w =>
    N (builtin Builtin.len #[52] 3 ([false]).toArray ([t22]).toArray) w fun t23 w =>
    N (xv (xbin BinOp.lss 3 (Operand.tmp 20) (Operand.tmp 23) t20 t23)) w fun t24 w =>
    k (Env.p e 24 t24) w) := nr (by kernel_rfl)
theorem c86_15_v : opV V86 (.tmp 24) = true := by kernel_rfl
theorem c86_15_s (hw : Cur w) : W Try.prog 38 V86 c86_15 Q e w = (condP (ev e (.tmp 24)) (Q .normal e w) (Q (.exit 0) e w)) := by rw [(by kernel_rfl : c86_15 = .cond (.tmp 24) Code.skip (Code.exit 0)), W_cond, c86_15_v, cond_true]; simp only [W_ret, W_skip, W_exit, W_label]
theorem c86_14_s (hw : Cur w) : W Try.prog 38 V86 c86_14 Q e w = (opsW (nx Try.prog) mv gdP 38 V86 o86_4 (fun e w => W Try.prog 38 V86 c86_15 Q e w) o86_4.toList [] e e w) := by rw [(by kernel_rfl : c86_14 = .seq (.region 4 o86_4 false) c86_15), W_seq_reg]
theorem c86_7_s (hw : Cur w) : W Try.prog 38 V86 c86_7 Q e w = (W Try.prog 38 V86 c86_14 (seqQ (fun e w => W Try.prog 38 V86 c86_8 Q e w) Q) e w) := by rw [(by kernel_rfl : c86_7 = .seq c86_14 c86_8), W_seq]
theorem c86_6_s (hw : Cur w) : W Try.prog 38 V86 c86_6 Q e w = (LoopP (fun e w k => W Try.prog 38 V86 c86_7 (seqQ k Q) e w) e w) := by rw [(by kernel_rfl : c86_6 = .loop c86_7), W_loop]
theorem c86_5_s (hw : Cur w) : W Try.prog 38 V86 c86_5 Q e w = (W Try.prog 38 V86 c86_6 (blockQ 0 Q) e w) := by rw [(by kernel_rfl : c86_5 = .block 0 c86_6), W_block]
theorem c86_4_s (hw : Cur w) : W Try.prog 38 V86 c86_4 Q e w = (opsW (nx Try.prog) mv gdP 38 V86 o86_3 (fun e w => W Try.prog 38 V86 c86_5 Q e w) o86_3.toList [] e e w) := by rw [(by kernel_rfl : c86_4 = .seq (.region 3 o86_3 false) c86_5), W_seq_reg]
theorem c86_2_s (hw : Cur w) : W Try.prog 38 V86 c86_2 Q e w = (W Try.prog 38 V86 c86_4 (seqQ (fun e w => W Try.prog 38 V86 c86_3 Q e w) Q) e w) := by rw [(by kernel_rfl : c86_2 = .seq c86_4 c86_3), W_seq]
theorem o86_1_eq : opsW N M G 38 V86 o86_1 k o86_1.toList [] e e w =
    (N (xv (Instr.fieldAt 54 (e 2) 0)) w fun t6 w =>
    N (xv (Instr.loadAt 2 t6)) w fun t7 w =>
    N (xv (Instr.fieldAt 54 (e 3) 0)) w fun t8 w =>
    N (xv (Instr.loadAt 2 t8)) w fun t9 w =>
    N (xv (xbin BinOp.neq 2 (Operand.tmp 7) (Operand.tmp 9) t7 t9)) w fun t10 w =>
    M t10 fun t11 =>
    G (isB t11 false) (fun K => N (xv (Instr.fieldAt 54 (e 2) 1)) w K) (fun t12 w =>
    G (isB t11 false) (fun K => N (xv (Instr.loadAt 52 t12)) w K) (fun t13 w =>
    G (isB t11 false) (fun K => N (builtin Builtin.len #[52] 3 ([false]).toArray ([t13]).toArray) w K) (fun t14 w =>
    G (isB t11 false) (fun K => N (xv (Instr.fieldAt 54 (e 3) 1)) w K) (fun t15 w =>
    G (isB t11 false) (fun K => N (xv (Instr.loadAt 52 t15)) w K) (fun t16 w =>
    G (isB t11 false) (fun K => N (builtin Builtin.len #[52] 3 ([false]).toArray ([t16]).toArray) w K) (fun t17 w =>
    G (isB t11 false) (fun K => N (xv (xbin BinOp.neq 3 (Operand.tmp 14) (Operand.tmp 17) t14 t17)) w K) (fun t18 w =>
    N (xpick t11 (Value.bool true) t18) w fun t19 w =>
    k (Env.p e 19 t19) w) w) w) w) w) w) w) w) := nr (by kernel_rfl)
theorem o86_2_eq : opsW N M G 38 V86 o86_2 k o86_2.toList [] e e w =
    (M (Value.bool false) fun t4 =>
    k (Env.p e 4 t4) w) := nr (by kernel_rfl)
theorem c86_18_s (hw : Cur w) : W Try.prog 38 V86 c86_18 Q e w = (opsW (nx Try.prog) mv gdP 38 V86 o86_2 (fun e w => Q .ret e w) o86_2.toList [] e e w) := by rw [(by kernel_rfl : c86_18 = .seq (.region 2 o86_2 false) Code.ret), W_seq_reg]; simp only [W_ret, W_skip, W_exit, W_label]
theorem c86_17_v : opV V86 (.tmp 19) = true := by kernel_rfl
theorem c86_17_s (hw : Cur w) : W Try.prog 38 V86 c86_17 Q e w = (condP (ev e (.tmp 19)) (W Try.prog 38 V86 c86_18 Q e w) (Q .normal e w)) := by rw [(by kernel_rfl : c86_17 = .cond (.tmp 19) c86_18 Code.skip), W_cond, c86_17_v, cond_true]; simp only [W_ret, W_skip, W_exit, W_label]
theorem c86_16_s (hw : Cur w) : W Try.prog 38 V86 c86_16 Q e w = (opsW (nx Try.prog) mv gdP 38 V86 o86_1 (fun e w => W Try.prog 38 V86 c86_17 Q e w) o86_1.toList [] e e w) := by rw [(by kernel_rfl : c86_16 = .seq (.region 1 o86_1 false) c86_17), W_seq_reg]
theorem c86_1_s (hw : Cur w) : W Try.prog 38 V86 c86_1 Q e w = (W Try.prog 38 V86 c86_16 (seqQ (fun e w => W Try.prog 38 V86 c86_2 Q e w) Q) e w) := by rw [(by kernel_rfl : c86_1 = .seq c86_16 c86_2), W_seq]
theorem c86_s (hw : Cur w) : W Try.prog 38 V86 c86 Q e w = (opsW (nx Try.prog) mv gdP 38 V86 o86_0 (fun e w => W Try.prog 38 V86 c86_1 Q e w) o86_0.toList [] e e w) := by rw [(by kernel_rfl : c86 = .seq (.region 0 o86_0 false) c86_1), W_seq_reg]
theorem call86 {a0 a1 : Value} {w : World} {R : Value → World → Prop} (h : W Try.prog 38 V86 c86 (retQ Try.prog [.tmp 4] R) (argE [a0, a1]) w) : CallsN Try.prog 86 [a0, a1] w R :=
  callsN_of_W (c := c86) (rs := [.tmp 4]) V86 Try.ntmps86 (by rw [Try.results86]) mixed Try.func86 (by kernel_rfl) (by kernel_rfl) (by kernel_rfl) (by kernel_rfl) (by simp) h
noncomputable def hk86 := And.intro (@o86_0_eq) <| And.intro (@o86_8_eq) <| And.intro (@c86_3_s) <| And.intro (@o86_3_eq) <| And.intro (@o86_5_eq) <| And.intro (@c86_9_s) <| And.intro (@o86_6_eq) <| And.intro (@o86_7_eq) <| And.intro (@c86_13_s) <| And.intro (@c86_12_s) <| And.intro (@c86_11_s) <| And.intro (@c86_10_s) <| And.intro (@c86_8_s) <| And.intro (@o86_4_eq) <| And.intro (@c86_15_s) <| And.intro (@c86_14_s) <| And.intro (@c86_7_s) <| And.intro (@c86_6_s) <| And.intro (@c86_5_s) <| And.intro (@c86_4_s) <| And.intro (@c86_2_s) <| And.intro (@o86_1_eq) <| And.intro (@o86_2_eq) <| And.intro (@c86_18_s) <| And.intro (@c86_17_s) <| And.intro (@c86_16_s) <| And.intro (@c86_1_s) <| @c86_s
-- K86: ↓hk86
/-! ### vouch/vouchref06.SameAll -/
def V61 : Nat → Bool := fun i => [0, 1, 4, 5, 10, 14, 26].elem i
noncomputable def c61 : Code := (Try.f61.body.getD .skip)
noncomputable def o61_0 : Array Oper := rO (cL c61)
noncomputable def c61_1 : Code := (cR c61)
noncomputable def c61_2 : Code := (cR c61_1)
noncomputable def c61_3 : Code := (cR c61_2)
noncomputable def o61_8 : Array Oper := rO (cL c61_3)
noncomputable def c61_4 : Code := (cL c61_2)
noncomputable def o61_3 : Array Oper := rO (cL c61_4)
noncomputable def c61_5 : Code := (cR c61_4)
noncomputable def c61_6 : Code := (cL c61_5)
noncomputable def c61_7 : Code := (cL c61_6)
noncomputable def c61_8 : Code := (cR c61_7)
noncomputable def c61_9 : Code := (cR c61_8)
noncomputable def o61_5 : Array Oper := rO c61_9
noncomputable def c61_10 : Code := (cL c61_8)
noncomputable def c61_11 : Code := (cL c61_10)
noncomputable def o61_6 : Array Oper := rO (cL c61_11)
noncomputable def c61_12 : Code := (cR c61_11)
noncomputable def c61_13 : Code := (cL c61_12)
noncomputable def o61_7 : Array Oper := rO (cL c61_13)
noncomputable def c61_14 : Code := (cL c61_7)
noncomputable def o61_4 : Array Oper := rO (cL c61_14)
noncomputable def c61_15 : Code := (cR c61_14)
noncomputable def c61_16 : Code := (cL c61_1)
noncomputable def o61_1 : Array Oper := rO (cL c61_16)
noncomputable def c61_17 : Code := (cR c61_16)
noncomputable def c61_18 : Code := (cL c61_17)
noncomputable def o61_2 : Array Oper := rO (cL c61_18)
theorem o61_0_eq : opsW N M G 27 V61 o61_0 k o61_0.toList [] e e w =
    (M (Value.bool false) fun t4 =>
    k (Env.p e 4 t4) w) := nr (by kernel_rfl)
theorem o61_8_eq : opsW N M G 27 V61 o61_8 k o61_8.toList [] e e w =
    (M (Value.bool true) fun t4 =>
    k (Env.p e 4 t4) w) := nr (by kernel_rfl)
theorem c61_3_s (hw : Cur w) : W Try.prog 27 V61 c61_3 Q e w = (opsW (nx Try.prog) mv gdP 27 V61 o61_8 (fun e w => Q .ret e w) o61_8.toList [] e e w) := by rw [(by kernel_rfl : c61_3 = .seq (.region 8 o61_8 false) Code.ret), W_seq_reg]; simp only [W_ret, W_skip, W_exit, W_label]
theorem o61_3_eq : opsW N M G 27 V61 o61_3 k o61_3.toList [] e e w =
    (M (Value.int IntKind.i64 0) fun t5 =>
    k (Env.p e 5 t5) w) := nr (by kernel_rfl)
theorem o61_5_eq : opsW N M G 27 V61 o61_5 k o61_5.toList [] e e w =
    (M (e 5) fun t15 =>
    N (xv (xbin BinOp.add 3 (Operand.tmp 15) (Operand.const (Value.int IntKind.i64 1)) t15 (Value.int IntKind.i64 1))) w fun t16 w =>
    M t16 fun t5 =>
    k (Env.p e 5 t5) w) := nr (by kernel_rfl)
theorem c61_9_s (hw : Cur w) : W Try.prog 27 V61 c61_9 Q e w = (opsW (nx Try.prog) mv gdP 27 V61 o61_5 (fun e w => Q .normal e w) o61_5.toList [] e e w) := by rw [(by kernel_rfl : c61_9 = (.region 5 o61_5 false)), W_reg]
theorem o61_6_eq : drawGo N T M G H 27 V61 o61_6 S k o61_6.size true (Array.replicate o61_6.size false) [] e e w =
    (M (e 0) fun t17 =>
    M (e 5) fun t18 =>
    T (xv (Instr.indexAt 60 t17 t18)) fun t19 =>
    T (xv (Instr.loadAt 54 t19)) fun t20 =>
    M (e 1) fun t21 =>
    M (e 5) fun t22 =>
    T (xv (Instr.indexAt 60 t21 t22)) fun t23 =>
    T (xv (Instr.loadAt 54 t23)) fun t24 =>
    N (xcall (Value.func (Fn.func 86) #[] #[]) [t20, t24]) w fun t25 w =>
    S w ∧ (T (xv (Op.unary UnOp.not t25)) fun t26 =>
    k (Env.p e 26 t26) w)) := nr (by kernel_rfl)
theorem o61_7_eq : opsW N M G 27 V61 o61_7 k o61_7.toList [] e e w =
    (M (Value.bool false) fun t4 =>
    k (Env.p e 4 t4) w) := nr (by kernel_rfl)
theorem c61_13_s (hw : Cur w) : W Try.prog 27 V61 c61_13 Q e w = (opsW (nx Try.prog) mv gdP 27 V61 o61_7 (fun e w => Q .ret e w) o61_7.toList [] e e w) := by rw [(by kernel_rfl : c61_13 = .seq (.region 7 o61_7 false) Code.ret), W_seq_reg]; simp only [W_ret, W_skip, W_exit, W_label]
theorem c61_12_v : opV V61 (.tmp 26) = true := by kernel_rfl
theorem c61_12_s (hw : Cur w) : W Try.prog 27 V61 c61_12 Q e w = (condP (ev e (.tmp 26)) (W Try.prog 27 V61 c61_13 Q e w) (Q .normal e w)) := by rw [(by kernel_rfl : c61_12 = .cond (.tmp 26) c61_13 Code.skip), W_cond, c61_12_v, cond_true]; simp only [W_ret, W_skip, W_exit, W_label]
theorem c61_11_s (hw : Cur w) : W Try.prog 27 V61 c61_11 Q e w = (∃ S : World → Prop, S w.drew ∧ drawGo (nx Try.prog) (takeP Try.prog S) mv gdP gdT 27 V61 o61_6 S (fun e w => W Try.prog 27 V61 c61_12 Q e w) o61_6.size true (Array.replicate o61_6.size false) [] e e w.drew) := by rw [(by kernel_rfl : c61_11 = .seq (.region 6 o61_6 true) c61_12), W_seq_regD]
theorem c61_10_s (hw : Cur w) : W Try.prog 27 V61 c61_10 Q e w = (W Try.prog 27 V61 c61_11 (blockQ 1 Q) e w) := by rw [(by kernel_rfl : c61_10 = .block 1 c61_11), W_block]
theorem c61_8_s (hw : Cur w) : W Try.prog 27 V61 c61_8 Q e w = (W Try.prog 27 V61 c61_10 (seqQ (fun e w => W Try.prog 27 V61 c61_9 Q e w) Q) e w) := by rw [(by kernel_rfl : c61_8 = .seq c61_10 c61_9), W_seq]
theorem o61_4_eq : opsW N M G 27 V61 o61_4 k o61_4.toList [] e e w =
    (M (e 5) fun t11 =>
    M (e 0) fun t12 =>
    N (builtin Builtin.len #[60] 3 ([false]).toArray ([t12]).toArray) w fun t13 w =>
    N (xv (xbin BinOp.lss 3 (Operand.tmp 11) (Operand.tmp 13) t11 t13)) w fun t14 w =>
    k (Env.p e 14 t14) w) := nr (by kernel_rfl)
theorem c61_15_v : opV V61 (.tmp 14) = true := by kernel_rfl
theorem c61_15_s (hw : Cur w) : W Try.prog 27 V61 c61_15 Q e w = (condP (ev e (.tmp 14)) (Q .normal e w) (Q (.exit 0) e w)) := by rw [(by kernel_rfl : c61_15 = .cond (.tmp 14) Code.skip (Code.exit 0)), W_cond, c61_15_v, cond_true]; simp only [W_ret, W_skip, W_exit, W_label]
theorem c61_14_s (hw : Cur w) : W Try.prog 27 V61 c61_14 Q e w = (opsW (nx Try.prog) mv gdP 27 V61 o61_4 (fun e w => W Try.prog 27 V61 c61_15 Q e w) o61_4.toList [] e e w) := by rw [(by kernel_rfl : c61_14 = .seq (.region 4 o61_4 false) c61_15), W_seq_reg]
theorem c61_7_s (hw : Cur w) : W Try.prog 27 V61 c61_7 Q e w = (W Try.prog 27 V61 c61_14 (seqQ (fun e w => W Try.prog 27 V61 c61_8 Q e w) Q) e w) := by rw [(by kernel_rfl : c61_7 = .seq c61_14 c61_8), W_seq]
theorem c61_6_s (hw : Cur w) : W Try.prog 27 V61 c61_6 Q e w = (LoopP (fun e w k => W Try.prog 27 V61 c61_7 (seqQ k Q) e w) e w) := by rw [(by kernel_rfl : c61_6 = .loop c61_7), W_loop]
theorem c61_5_s (hw : Cur w) : W Try.prog 27 V61 c61_5 Q e w = (W Try.prog 27 V61 c61_6 (blockQ 0 Q) e w) := by rw [(by kernel_rfl : c61_5 = .block 0 c61_6), W_block]
theorem c61_4_s (hw : Cur w) : W Try.prog 27 V61 c61_4 Q e w = (opsW (nx Try.prog) mv gdP 27 V61 o61_3 (fun e w => W Try.prog 27 V61 c61_5 Q e w) o61_3.toList [] e e w) := by rw [(by kernel_rfl : c61_4 = .seq (.region 3 o61_3 false) c61_5), W_seq_reg]
theorem c61_2_s (hw : Cur w) : W Try.prog 27 V61 c61_2 Q e w = (W Try.prog 27 V61 c61_4 (seqQ (fun e w => W Try.prog 27 V61 c61_3 Q e w) Q) e w) := by rw [(by kernel_rfl : c61_2 = .seq c61_4 c61_3), W_seq]
theorem o61_1_eq : opsW N M G 27 V61 o61_1 k o61_1.toList [] e e w =
    (M (e 0) fun t6 =>
    N (builtin Builtin.len #[60] 3 ([false]).toArray ([t6]).toArray) w fun t7 w =>
    M (e 1) fun t8 =>
    N (builtin Builtin.len #[60] 3 ([false]).toArray ([t8]).toArray) w fun t9 w =>
    N (xv (xbin BinOp.neq 3 (Operand.tmp 7) (Operand.tmp 9) t7 t9)) w fun t10 w =>
    k (Env.p e 10 t10) w) := nr (by kernel_rfl)
theorem o61_2_eq : opsW N M G 27 V61 o61_2 k o61_2.toList [] e e w =
    (M (Value.bool false) fun t4 =>
    k (Env.p e 4 t4) w) := nr (by kernel_rfl)
theorem c61_18_s (hw : Cur w) : W Try.prog 27 V61 c61_18 Q e w = (opsW (nx Try.prog) mv gdP 27 V61 o61_2 (fun e w => Q .ret e w) o61_2.toList [] e e w) := by rw [(by kernel_rfl : c61_18 = .seq (.region 2 o61_2 false) Code.ret), W_seq_reg]; simp only [W_ret, W_skip, W_exit, W_label]
theorem c61_17_v : opV V61 (.tmp 10) = true := by kernel_rfl
theorem c61_17_s (hw : Cur w) : W Try.prog 27 V61 c61_17 Q e w = (condP (ev e (.tmp 10)) (W Try.prog 27 V61 c61_18 Q e w) (Q .normal e w)) := by rw [(by kernel_rfl : c61_17 = .cond (.tmp 10) c61_18 Code.skip), W_cond, c61_17_v, cond_true]; simp only [W_ret, W_skip, W_exit, W_label]
theorem c61_16_s (hw : Cur w) : W Try.prog 27 V61 c61_16 Q e w = (opsW (nx Try.prog) mv gdP 27 V61 o61_1 (fun e w => W Try.prog 27 V61 c61_17 Q e w) o61_1.toList [] e e w) := by rw [(by kernel_rfl : c61_16 = .seq (.region 1 o61_1 false) c61_17), W_seq_reg]
theorem c61_1_s (hw : Cur w) : W Try.prog 27 V61 c61_1 Q e w = (W Try.prog 27 V61 c61_16 (seqQ (fun e w => W Try.prog 27 V61 c61_2 Q e w) Q) e w) := by rw [(by kernel_rfl : c61_1 = .seq c61_16 c61_2), W_seq]
theorem c61_s (hw : Cur w) : W Try.prog 27 V61 c61 Q e w = (opsW (nx Try.prog) mv gdP 27 V61 o61_0 (fun e w => W Try.prog 27 V61 c61_1 Q e w) o61_0.toList [] e e w) := by rw [(by kernel_rfl : c61 = .seq (.region 0 o61_0 false) c61_1), W_seq_reg]
theorem call61 {a0 a1 : Value} {w : World} {R : Value → World → Prop} (h : W Try.prog 27 V61 c61 (retQ Try.prog [.tmp 4] R) (argE [a0, a1]) w) : CallsN Try.prog 61 [a0, a1] w R :=
  callsN_of_W (c := c61) (rs := [.tmp 4]) V61 Try.ntmps61 (by rw [Try.results61]) mixed Try.func61 (by kernel_rfl) (by kernel_rfl) (by kernel_rfl) (by kernel_rfl) (by simp) h
noncomputable def hk61 := And.intro (@o61_0_eq) <| And.intro (@o61_8_eq) <| And.intro (@c61_3_s) <| And.intro (@o61_3_eq) <| And.intro (@o61_5_eq) <| And.intro (@c61_9_s) <| And.intro (@o61_6_eq) <| And.intro (@o61_7_eq) <| And.intro (@c61_13_s) <| And.intro (@c61_12_s) <| And.intro (@c61_11_s) <| And.intro (@c61_10_s) <| And.intro (@c61_8_s) <| And.intro (@o61_4_eq) <| And.intro (@c61_15_s) <| And.intro (@c61_14_s) <| And.intro (@c61_7_s) <| And.intro (@c61_6_s) <| And.intro (@c61_5_s) <| And.intro (@c61_4_s) <| And.intro (@c61_2_s) <| And.intro (@o61_1_eq) <| And.intro (@o61_2_eq) <| And.intro (@c61_18_s) <| And.intro (@c61_17_s) <| And.intro (@c61_16_s) <| And.intro (@c61_1_s) <| @c61_s
-- K61: ↓hk61
/-! ### (vouch/span.Span[int64]) . Empty -/
def V44 : Nat → Bool := fun i => [0, 1, 2].elem i
noncomputable def c44 : Code := (Try.f44.body.getD .skip)
noncomputable def o44_0 : Array Oper := rO (cL c44)
noncomputable def c44_1 : Code := (cR c44)
noncomputable def o44_1 : Array Oper := rO (cL c44_1)
theorem o44_0_eq : opsW N M G 8 V44 o44_0 k o44_0.toList [] e e w =
    (N (xv (Instr.box 86 (e 0))) w fun t1 w =>
    M (Value.bool false) fun t2 =>
    k (Env.p (Env.p e 1 t1) 2 t2) w) := nr (by kernel_rfl)
theorem o44_1_eq : opsW N M G 8 V44 o44_1 k o44_1.toList [] e e w =
    (N (xv (Instr.fieldAt 86 (e 1) 0)) w fun t3 w =>
    N (xv (Instr.loadAt 2 t3)) w fun t4 w =>
    N (xv (Instr.fieldAt 86 (e 1) 1)) w fun t5 w =>
    N (xv (Instr.loadAt 2 t5)) w fun t6 w =>
    N (xv (xbin BinOp.geq 2 (Operand.tmp 4) (Operand.tmp 6) t4 t6)) w fun t7 w =>
    M t7 fun t2 =>
    k (Env.p e 2 t2) w) := nr (by kernel_rfl)
theorem c44_1_s (hw : Cur w) : W Try.prog 8 V44 c44_1 Q e w = (opsW (nx Try.prog) mv gdP 8 V44 o44_1 (fun e w => Q .ret e w) o44_1.toList [] e e w) := by rw [(by kernel_rfl : c44_1 = .seq (.region 1 o44_1 false) Code.ret), W_seq_reg]; simp only [W_ret, W_skip, W_exit, W_label]
theorem c44_s (hw : Cur w) : W Try.prog 8 V44 c44 Q e w = (opsW (nx Try.prog) mv gdP 8 V44 o44_0 (fun e w => W Try.prog 8 V44 c44_1 Q e w) o44_0.toList [] e e w) := by rw [(by kernel_rfl : c44 = .seq (.region 0 o44_0 false) c44_1), W_seq_reg]
theorem call44 {a0 : Value} {w : World} {R : Value → World → Prop} (h : W Try.prog 8 V44 c44 (retQ Try.prog [.tmp 2] R) (argE [a0]) w) : CallsN Try.prog 44 [a0] w R :=
  callsN_of_W (c := c44) (rs := [.tmp 2]) V44 Try.ntmps44 (by rw [Try.results44]) mixed Try.func44 (by kernel_rfl) (by kernel_rfl) (by kernel_rfl) (by kernel_rfl) (by simp) h
noncomputable def hk44 := And.intro (@o44_0_eq) <| And.intro (@o44_1_eq) <| And.intro (@c44_1_s) <| @c44_s
-- K44: ↓hk44
/-! ### vouch/gap.New[int] -/
def V30 : Nat → Bool := fun i => [0, 1, 4, 5].elem i
noncomputable def c30 : Code := (Try.f30.body.getD .skip)
noncomputable def o30_0 : Array Oper := rO (cL c30)
noncomputable def c30_1 : Code := (cR c30)
noncomputable def o30_1 : Array Oper := rO (cL c30_1)
noncomputable def c30_2 : Code := (cR c30_1)
noncomputable def o30_2 : Array Oper := rO (cL c30_2)
noncomputable def c30_3 : Code := (cR c30_2)
noncomputable def o30_3 : Array Oper := rO (cL c30_3)
theorem o30_0_eq : opsW N M G 15 V30 o30_0 k o30_0.toList [] e e w =
    (M (Value.pointer none) fun t4 =>
    k (Env.p e 4 t4) w) := nr (by kernel_rfl)
theorem o30_1_eq : opsW N M G 15 V30 o30_1 k o30_1.toList [] e e w =
    (M (e 1) fun t6 =>
    N (builtin Builtin.max #[3, 3] 3 ([false, true]).toArray ([t6, (Value.int IntKind.i64 0)]).toArray) w fun t7 w =>
    N (builtin Builtin.min #[3, 3] 3 ([false, true]).toArray ([t7, (Value.int IntKind.i64 256)]).toArray) w fun t8 w =>
    N (xv (Instr.build 130 ([(1, t8)]).toArray)) w fun t9 w =>
    N (xv (Instr.box 130 t9)) w fun t10 w =>
    M t10 fun t5 =>
    k (Env.p e 5 t5) w) := nr (by kernel_rfl)
theorem o30_2_eq : opsW N M G 15 V30 o30_2 k o30_2.toList [] e e w =
    (M (e 5) fun t11 =>
    M (e 0) fun t12 =>
    N (xcall (Value.func (Fn.func 42) #[] #[]) [t11, t12]) w fun t13 w =>
    k e w) := nr (by kernel_rfl)
theorem o30_3_eq : opsW N M G 15 V30 o30_3 k o30_3.toList [] e e w =
    (M (e 5) fun t14 =>
    M t14 fun t4 =>
    k (Env.p e 4 t4) w) := nr (by kernel_rfl)
theorem c30_3_s (hw : Cur w) : W Try.prog 15 V30 c30_3 Q e w = (opsW (nx Try.prog) mv gdP 15 V30 o30_3 (fun e w => Q .ret e w) o30_3.toList [] e e w) := by rw [(by kernel_rfl : c30_3 = .seq (.region 3 o30_3 false) Code.ret), W_seq_reg]; simp only [W_ret, W_skip, W_exit, W_label]
theorem c30_2_s (hw : Cur w) : W Try.prog 15 V30 c30_2 Q e w = (opsW (nx Try.prog) mv gdP 15 V30 o30_2 (fun e w => W Try.prog 15 V30 c30_3 Q e w) o30_2.toList [] e e w) := by rw [(by kernel_rfl : c30_2 = .seq (.region 2 o30_2 false) c30_3), W_seq_reg]
theorem c30_1_s (hw : Cur w) : W Try.prog 15 V30 c30_1 Q e w = (opsW (nx Try.prog) mv gdP 15 V30 o30_1 (fun e w => W Try.prog 15 V30 c30_2 Q e w) o30_1.toList [] e e w) := by rw [(by kernel_rfl : c30_1 = .seq (.region 1 o30_1 false) c30_2), W_seq_reg]
theorem c30_s (hw : Cur w) : W Try.prog 15 V30 c30 Q e w = (opsW (nx Try.prog) mv gdP 15 V30 o30_0 (fun e w => W Try.prog 15 V30 c30_1 Q e w) o30_0.toList [] e e w) := by rw [(by kernel_rfl : c30 = .seq (.region 0 o30_0 false) c30_1), W_seq_reg]
theorem call30 {a0 a1 : Value} {w : World} {R : Value → World → Prop} (h : W Try.prog 15 V30 c30 (retQ Try.prog [.tmp 4] R) (argE [a0, a1]) w) : CallsN Try.prog 30 [a0, a1] w R :=
  callsN_of_W (c := c30) (rs := [.tmp 4]) V30 Try.ntmps30 (by rw [Try.results30]) mixed Try.func30 (by kernel_rfl) (by kernel_rfl) (by kernel_rfl) (by kernel_rfl) (by simp) h
noncomputable def hk30 := And.intro (@o30_0_eq) <| And.intro (@o30_1_eq) <| And.intro (@o30_2_eq) <| And.intro (@o30_3_eq) <| And.intro (@c30_3_s) <| And.intro (@c30_2_s) <| And.intro (@c30_1_s) <| @c30_s
-- K30: ↓hk30
/-! ### (*vouch/gap.Gap[int]) . Put -/
def V31 : Nat → Bool := fun i => [0, 1, 2, 6, 7, 9, 23, 33, 40, 53].elem i
noncomputable def c31 : Code := (Try.f31.body.getD .skip)
noncomputable def o31_0 : Array Oper := rO (cL c31)
noncomputable def c31_1 : Code := (cR c31)
noncomputable def c31_2 : Code := (cR c31_1)
noncomputable def c31_3 : Code := (cR c31_2)
noncomputable def c31_4 : Code := (cR c31_3)
noncomputable def c31_5 : Code := (cR c31_4)
noncomputable def o31_11 : Array Oper := rO (cL c31_5)
noncomputable def c31_6 : Code := (cR c31_5)
noncomputable def o31_12 : Array Oper := rO (cL c31_6)
noncomputable def c31_7 : Code := (cL c31_4)
noncomputable def o31_8 : Array Oper := rO (cL c31_7)
noncomputable def c31_8 : Code := (cR c31_7)
noncomputable def c31_9 : Code := (cL c31_8)
noncomputable def o31_9 : Array Oper := rO (cL c31_9)
noncomputable def c31_10 : Code := (cR c31_9)
noncomputable def o31_10 : Array Oper := rO (cL c31_10)
noncomputable def c31_11 : Code := (cL c31_3)
noncomputable def o31_6 : Array Oper := rO (cL c31_11)
noncomputable def c31_12 : Code := (cR c31_11)
noncomputable def c31_13 : Code := (cL c31_12)
noncomputable def o31_7 : Array Oper := rO (cL c31_13)
noncomputable def c31_14 : Code := (cL c31_2)
noncomputable def o31_3 : Array Oper := rO (cL c31_14)
noncomputable def c31_15 : Code := (cR c31_14)
noncomputable def o31_4 : Array Oper := rO (cL c31_15)
noncomputable def c31_16 : Code := (cR c31_15)
noncomputable def c31_17 : Code := (cL c31_16)
noncomputable def o31_5 : Array Oper := rO (cL c31_17)
noncomputable def c31_18 : Code := (cL c31_1)
noncomputable def o31_1 : Array Oper := rO (cL c31_18)
noncomputable def c31_19 : Code := (cR c31_18)
noncomputable def c31_20 : Code := (cL c31_19)
noncomputable def o31_2 : Array Oper := rO (cL c31_20)
theorem o31_0_eq : opsW N M G 64 V31 o31_0 k o31_0.toList [] e e w =
    (M (Value.slice none 0 0) fun t6 =>
    M (Value.bool false) fun t7 =>
    k (Env.p (Env.p e 6 t6) 7 t7) w) := nr (by kernel_rfl)
theorem o31_11_eq : opsW N M G 64 V31 o31_11 k o31_11.toList [] e e w =
    (M (e 0) fun t58 =>
    N (xnil t58) w fun t59 w =>
    N (xv (Instr.fieldAt 130 t59 2)) w fun t60 w =>
    N (xv (Instr.loadAt 128 t60)) w fun t61 w =>
    M (e 1) fun t62 =>
    M (e 2) fun t63 =>
    N (xu (Instr.mapUpdate 128 t61 t62 t63)) w fun _ w =>
    k e w) := nr (by kernel_rfl)
theorem o31_12_eq : opsW N M G 64 V31 o31_12 k o31_12.toList [] e e w =
    (M (Value.slice none 0 0) fun t6 =>
    M (Value.bool false) fun t7 =>
    k (Env.p (Env.p e 6 t6) 7 t7) w) := nr (by kernel_rfl)
theorem c31_6_s (hw : Cur w) : W Try.prog 64 V31 c31_6 Q e w = (opsW (nx Try.prog) mv gdP 64 V31 o31_12 (fun e w => Q .ret e w) o31_12.toList [] e e w) := by rw [(by kernel_rfl : c31_6 = .seq (.region 12 o31_12 false) Code.ret), W_seq_reg]; simp only [W_ret, W_skip, W_exit, W_label]
theorem c31_5_s (hw : Cur w) : W Try.prog 64 V31 c31_5 Q e w = (opsW (nx Try.prog) mv gdP 64 V31 o31_11 (fun e w => W Try.prog 64 V31 c31_6 Q e w) o31_11.toList [] e e w) := by rw [(by kernel_rfl : c31_5 = .seq (.region 11 o31_11 false) c31_6), W_seq_reg]
theorem o31_8_eq : drawGo N T M G H 64 V31 o31_8 S k o31_8.size true (Array.replicate o31_8.size false) [] e e w =
    (M (e 0) fun t44 =>
    T (xnil t44) fun t45 =>
    T (xv (Instr.fieldAt 130 t45 2)) fun t46 =>
    T (xv (Instr.loadAt 128 t46)) fun t47 =>
    T (builtin Builtin.len #[128] 3 ([false]).toArray ([t47]).toArray) fun t48 =>
    M (e 0) fun t49 =>
    T (xnil t49) fun t50 =>
    T (xv (Instr.fieldAt 130 t50 1)) fun t51 =>
    T (xv (Instr.loadAt 3 t51)) fun t52 =>
    T (xv (xbin BinOp.geq 3 (Operand.tmp 48) (Operand.tmp 52) t48 t52)) fun t53 =>
    k (Env.p e 53 t53) w) := nr (by kernel_rfl)
theorem o31_9_eq : opsW N M G 64 V31 o31_9 k o31_9.toList [] e e w =
    (M (e 0) fun t54 =>
    N (xnil t54) w fun t55 w =>
    N (xv (Instr.fieldAt 130 t55 2)) w fun t56 w =>
    N (xv (Instr.loadAt 128 t56)) w fun t57 w =>
    N (builtin Builtin.clear #[128] 0 ([false]).toArray ([t57]).toArray) w fun _ w =>
    k e w) := nr (by kernel_rfl)
theorem o31_10_eq : opsW N M G 64 V31 o31_10 k o31_10.toList [] e e w =
    (M (Value.slice none 0 0) fun t6 =>
    M (Value.bool true) fun t7 =>
    k (Env.p (Env.p e 6 t6) 7 t7) w) := nr (by kernel_rfl)
theorem c31_10_s (hw : Cur w) : W Try.prog 64 V31 c31_10 Q e w = (opsW (nx Try.prog) mv gdP 64 V31 o31_10 (fun e w => Q .ret e w) o31_10.toList [] e e w) := by rw [(by kernel_rfl : c31_10 = .seq (.region 10 o31_10 false) Code.ret), W_seq_reg]; simp only [W_ret, W_skip, W_exit, W_label]
theorem c31_9_s (hw : Cur w) : W Try.prog 64 V31 c31_9 Q e w = (opsW (nx Try.prog) mv gdP 64 V31 o31_9 (fun e w => W Try.prog 64 V31 c31_10 Q e w) o31_9.toList [] e e w) := by rw [(by kernel_rfl : c31_9 = .seq (.region 9 o31_9 false) c31_10), W_seq_reg]
theorem c31_8_v : opV V31 (.tmp 53) = true := by kernel_rfl
theorem c31_8_s (hw : Cur w) : W Try.prog 64 V31 c31_8 Q e w = (condP (ev e (.tmp 53)) (W Try.prog 64 V31 c31_9 Q e w) (Q .normal e w)) := by rw [(by kernel_rfl : c31_8 = .cond (.tmp 53) c31_9 Code.skip), W_cond, c31_8_v, cond_true]; simp only [W_ret, W_skip, W_exit, W_label]
theorem c31_7_s (hw : Cur w) : W Try.prog 64 V31 c31_7 Q e w = (∃ S : World → Prop, S w.drew ∧ drawGo (nx Try.prog) (takeP Try.prog S) mv gdP gdT 64 V31 o31_8 S (fun e w => W Try.prog 64 V31 c31_8 Q e w) o31_8.size true (Array.replicate o31_8.size false) [] e e w.drew) := by rw [(by kernel_rfl : c31_7 = .seq (.region 8 o31_8 true) c31_8), W_seq_regD]
theorem c31_4_s (hw : Cur w) : W Try.prog 64 V31 c31_4 Q e w = (W Try.prog 64 V31 c31_7 (seqQ (fun e w => W Try.prog 64 V31 c31_5 Q e w) Q) e w) := by rw [(by kernel_rfl : c31_4 = .seq c31_7 c31_5), W_seq]
theorem o31_6_eq : opsW N M G 64 V31 o31_6 k o31_6.toList [] e e w =
    (M (e 1) fun t34 =>
    M (e 0) fun t35 =>
    N (xnil t35) w fun t36 w =>
    N (xv (Instr.fieldAt 130 t36 0)) w fun t37 w =>
    N (xv (Instr.loadAt 2 t37)) w fun t38 w =>
    N (xv (xbin BinOp.add 2 (Operand.tmp 38) (Operand.const (Value.int IntKind.i64 1)) t38 (Value.int IntKind.i64 1))) w fun t39 w =>
    N (xv (xbin BinOp.eql 2 (Operand.tmp 34) (Operand.tmp 39) t34 t39)) w fun t40 w =>
    k (Env.p e 40 t40) w) := nr (by kernel_rfl)
theorem o31_7_eq : opsW N M G 64 V31 o31_7 k o31_7.toList [] e e w =
    (M (e 0) fun t41 =>
    M (e 2) fun t42 =>
    N (xcall (Value.func (Fn.func 66) #[] #[]) [t41, t42]) w fun t43 w =>
    M t43 fun t6 =>
    M (Value.bool false) fun t7 =>
    k (Env.p (Env.p e 6 t6) 7 t7) w) := nr (by kernel_rfl)
theorem c31_13_s (hw : Cur w) : W Try.prog 64 V31 c31_13 Q e w = (opsW (nx Try.prog) mv gdP 64 V31 o31_7 (fun e w => Q .ret e w) o31_7.toList [] e e w) := by rw [(by kernel_rfl : c31_13 = .seq (.region 7 o31_7 false) Code.ret), W_seq_reg]; simp only [W_ret, W_skip, W_exit, W_label]
theorem c31_12_v : opV V31 (.tmp 40) = true := by kernel_rfl
theorem c31_12_s (hw : Cur w) : W Try.prog 64 V31 c31_12 Q e w = (condP (ev e (.tmp 40)) (W Try.prog 64 V31 c31_13 Q e w) (Q .normal e w)) := by rw [(by kernel_rfl : c31_12 = .cond (.tmp 40) c31_13 Code.skip), W_cond, c31_12_v, cond_true]; simp only [W_ret, W_skip, W_exit, W_label]
theorem c31_11_s (hw : Cur w) : W Try.prog 64 V31 c31_11 Q e w = (opsW (nx Try.prog) mv gdP 64 V31 o31_6 (fun e w => W Try.prog 64 V31 c31_12 Q e w) o31_6.toList [] e e w) := by rw [(by kernel_rfl : c31_11 = .seq (.region 6 o31_6 false) c31_12), W_seq_reg]
theorem c31_3_s (hw : Cur w) : W Try.prog 64 V31 c31_3 Q e w = (W Try.prog 64 V31 c31_11 (seqQ (fun e w => W Try.prog 64 V31 c31_4 Q e w) Q) e w) := by rw [(by kernel_rfl : c31_3 = .seq c31_11 c31_4), W_seq]
theorem o31_3_eq : opsW N M G 64 V31 o31_3 k o31_3.toList [] e e w =
    (M (e 0) fun t25 =>
    N (xnil t25) w fun t26 w =>
    N (xv (Instr.fieldAt 130 t26 2)) w fun t27 w =>
    N (xv (Instr.loadAt 128 t27)) w fun t28 w =>
    M (e 1) fun t29 =>
    N (xv (Instr.lookup 128 t28 t29 true)) w fun t30 w =>
    M t30 fun t24 =>
    N (xv (Instr.extract t24 0)) w fun t31 w =>
    N (xv (Instr.extract t24 1)) w fun t32 w =>
    M t31 fun t8 =>
    M t32 fun t9 =>
    k (Env.p e 9 t9) w) := nr (by kernel_rfl)
theorem o31_4_eq : opsW N M G 64 V31 o31_4 k o31_4.toList [] e e w =
    (M (e 9) fun t33 =>
    k (Env.p e 33 t33) w) := nr (by kernel_rfl)
theorem o31_5_eq : opsW N M G 64 V31 o31_5 k o31_5.toList [] e e w =
    (M (Value.slice none 0 0) fun t6 =>
    M (Value.bool false) fun t7 =>
    k (Env.p (Env.p e 6 t6) 7 t7) w) := nr (by kernel_rfl)
theorem c31_17_s (hw : Cur w) : W Try.prog 64 V31 c31_17 Q e w = (opsW (nx Try.prog) mv gdP 64 V31 o31_5 (fun e w => Q .ret e w) o31_5.toList [] e e w) := by rw [(by kernel_rfl : c31_17 = .seq (.region 5 o31_5 false) Code.ret), W_seq_reg]; simp only [W_ret, W_skip, W_exit, W_label]
theorem c31_16_v : opV V31 (.tmp 33) = true := by kernel_rfl
theorem c31_16_s (hw : Cur w) : W Try.prog 64 V31 c31_16 Q e w = (condP (ev e (.tmp 33)) (W Try.prog 64 V31 c31_17 Q e w) (Q .normal e w)) := by rw [(by kernel_rfl : c31_16 = .cond (.tmp 33) c31_17 Code.skip), W_cond, c31_16_v, cond_true]; simp only [W_ret, W_skip, W_exit, W_label]
theorem c31_15_s (hw : Cur w) : W Try.prog 64 V31 c31_15 Q e w = (opsW (nx Try.prog) mv gdP 64 V31 o31_4 (fun e w => W Try.prog 64 V31 c31_16 Q e w) o31_4.toList [] e e w) := by rw [(by kernel_rfl : c31_15 = .seq (.region 4 o31_4 false) c31_16), W_seq_reg]
theorem c31_14_s (hw : Cur w) : W Try.prog 64 V31 c31_14 Q e w = (opsW (nx Try.prog) mv gdP 64 V31 o31_3 (fun e w => W Try.prog 64 V31 c31_15 Q e w) o31_3.toList [] e e w) := by rw [(by kernel_rfl : c31_14 = .seq (.region 3 o31_3 false) c31_15), W_seq_reg]
theorem c31_2_s (hw : Cur w) : W Try.prog 64 V31 c31_2 Q e w = (W Try.prog 64 V31 c31_14 (seqQ (fun e w => W Try.prog 64 V31 c31_3 Q e w) Q) e w) := by rw [(by kernel_rfl : c31_2 = .seq c31_14 c31_3), W_seq]
theorem o31_1_eq : opsW N M G 64 V31 o31_1 k o31_1.toList [] e e w =
    (M (e 0) fun t10 =>
    N (xv (xbin BinOp.eql 65 (Operand.tmp 10) (Operand.const (Value.pointer none)) t10 (Value.pointer none))) w fun t11 w =>
    M t11 fun t12 =>
    G (isB t12 false) (fun K => M (e 1) fun v => K v w) (fun t13 w =>
    G (isB t12 false) (fun K => M (e 0) fun v => K v w) (fun t14 w =>
    G (isB t12 false) (fun K => N (xnil t14) w K) (fun t15 w =>
    G (isB t12 false) (fun K => N (xv (Instr.fieldAt 130 t15 0)) w K) (fun t16 w =>
    G (isB t12 false) (fun K => N (xv (Instr.loadAt 2 t16)) w K) (fun t17 w =>
    G (isB t12 false) (fun K => N (xv (xbin BinOp.leq 2 (Operand.tmp 13) (Operand.tmp 17) t13 t17)) w K) (fun t18 w =>
    N (xpick t12 (Value.bool true) t18) w fun t19 w =>
    M t19 fun t20 =>
    G (isB t20 false) (fun K => M (e 1) fun v => K v w) (fun t21 w =>
    G (isB t20 false) (fun K => N (xv (xbin BinOp.gtr 2 (Operand.tmp 21) (Operand.const (Value.int IntKind.i64 1099511627776)) t21 (Value.int IntKind.i64 1099511627776))) w K) (fun t22 w =>
    N (xpick t20 (Value.bool true) t22) w fun t23 w =>
    k (Env.p e 23 t23) w) w) w) w) w) w) w) w) w) := nr (by kernel_rfl)
theorem o31_2_eq : opsW N M G 64 V31 o31_2 k o31_2.toList [] e e w =
    (M (Value.slice none 0 0) fun t6 =>
    M (Value.bool false) fun t7 =>
    k (Env.p (Env.p e 6 t6) 7 t7) w) := nr (by kernel_rfl)
theorem c31_20_s (hw : Cur w) : W Try.prog 64 V31 c31_20 Q e w = (opsW (nx Try.prog) mv gdP 64 V31 o31_2 (fun e w => Q .ret e w) o31_2.toList [] e e w) := by rw [(by kernel_rfl : c31_20 = .seq (.region 2 o31_2 false) Code.ret), W_seq_reg]; simp only [W_ret, W_skip, W_exit, W_label]
theorem c31_19_v : opV V31 (.tmp 23) = true := by kernel_rfl
theorem c31_19_s (hw : Cur w) : W Try.prog 64 V31 c31_19 Q e w = (condP (ev e (.tmp 23)) (W Try.prog 64 V31 c31_20 Q e w) (Q .normal e w)) := by rw [(by kernel_rfl : c31_19 = .cond (.tmp 23) c31_20 Code.skip), W_cond, c31_19_v, cond_true]; simp only [W_ret, W_skip, W_exit, W_label]
theorem c31_18_s (hw : Cur w) : W Try.prog 64 V31 c31_18 Q e w = (opsW (nx Try.prog) mv gdP 64 V31 o31_1 (fun e w => W Try.prog 64 V31 c31_19 Q e w) o31_1.toList [] e e w) := by rw [(by kernel_rfl : c31_18 = .seq (.region 1 o31_1 false) c31_19), W_seq_reg]
theorem c31_1_s (hw : Cur w) : W Try.prog 64 V31 c31_1 Q e w = (W Try.prog 64 V31 c31_18 (seqQ (fun e w => W Try.prog 64 V31 c31_2 Q e w) Q) e w) := by rw [(by kernel_rfl : c31_1 = .seq c31_18 c31_2), W_seq]
theorem c31_s (hw : Cur w) : W Try.prog 64 V31 c31 Q e w = (opsW (nx Try.prog) mv gdP 64 V31 o31_0 (fun e w => W Try.prog 64 V31 c31_1 Q e w) o31_0.toList [] e e w) := by rw [(by kernel_rfl : c31 = .seq (.region 0 o31_0 false) c31_1), W_seq_reg]
theorem call31 {a0 a1 a2 : Value} {w : World} {R : Value → World → Prop} (h : W Try.prog 64 V31 c31 (retQ Try.prog [.tmp 6, .tmp 7] R) (argE [a0, a1, a2]) w) : CallsN Try.prog 31 [a0, a1, a2] w R :=
  callsN_of_W (c := c31) (rs := [.tmp 6, .tmp 7]) V31 Try.ntmps31 (by rw [Try.results31]) mixed Try.func31 (by kernel_rfl) (by kernel_rfl) (by kernel_rfl) (by kernel_rfl) (by simp) h
noncomputable def hk31 := And.intro (@o31_0_eq) <| And.intro (@o31_11_eq) <| And.intro (@o31_12_eq) <| And.intro (@c31_6_s) <| And.intro (@c31_5_s) <| And.intro (@o31_8_eq) <| And.intro (@o31_9_eq) <| And.intro (@o31_10_eq) <| And.intro (@c31_10_s) <| And.intro (@c31_9_s) <| And.intro (@c31_8_s) <| And.intro (@c31_7_s) <| And.intro (@c31_4_s) <| And.intro (@o31_6_eq) <| And.intro (@o31_7_eq) <| And.intro (@c31_13_s) <| And.intro (@c31_12_s) <| And.intro (@c31_11_s) <| And.intro (@c31_3_s) <| And.intro (@o31_3_eq) <| And.intro (@o31_4_eq) <| And.intro (@o31_5_eq) <| And.intro (@c31_17_s) <| And.intro (@c31_16_s) <| And.intro (@c31_15_s) <| And.intro (@c31_14_s) <| And.intro (@c31_2_s) <| And.intro (@o31_1_eq) <| And.intro (@o31_2_eq) <| And.intro (@c31_20_s) <| And.intro (@c31_19_s) <| And.intro (@c31_18_s) <| And.intro (@c31_1_s) <| @c31_s
-- K31: ↓hk31
/-! ### (*vouch/gap.Gap[int]) . At -/
def V33 : Nat → Bool := fun i => [0, 2, 4].elem i
noncomputable def c33 : Code := (Try.f33.body.getD .skip)
noncomputable def o33_0 : Array Oper := rO (cL c33)
noncomputable def c33_1 : Code := (cR c33)
noncomputable def c33_2 : Code := (cR c33_1)
noncomputable def o33_3 : Array Oper := rO (cL c33_2)
noncomputable def c33_3 : Code := (cL c33_1)
noncomputable def o33_1 : Array Oper := rO (cL c33_3)
noncomputable def c33_4 : Code := (cR c33_3)
noncomputable def c33_5 : Code := (cL c33_4)
noncomputable def o33_2 : Array Oper := rO (cL c33_5)
theorem o33_0_eq : opsW N M G 9 V33 o33_0 k o33_0.toList [] e e w =
    (M (Value.int IntKind.i64 0) fun t2 =>
    k (Env.p e 2 t2) w) := nr (by kernel_rfl)
theorem o33_3_eq : opsW N M G 9 V33 o33_3 k o33_3.toList [] e e w =
    (M (e 0) fun t5 =>
    N (xnil t5) w fun t6 w =>
    N (xv (Instr.fieldAt 130 t6 0)) w fun t7 w =>
    N (xv (Instr.loadAt 2 t7)) w fun t8 w =>
    M t8 fun t2 =>
    k (Env.p e 2 t2) w) := nr (by kernel_rfl)
theorem c33_2_s (hw : Cur w) : W Try.prog 9 V33 c33_2 Q e w = (opsW (nx Try.prog) mv gdP 9 V33 o33_3 (fun e w => Q .ret e w) o33_3.toList [] e e w) := by rw [(by kernel_rfl : c33_2 = .seq (.region 3 o33_3 false) Code.ret), W_seq_reg]; simp only [W_ret, W_skip, W_exit, W_label]
theorem o33_1_eq : opsW N M G 9 V33 o33_1 k o33_1.toList [] e e w =
    (M (e 0) fun t3 =>
    N (xv (xbin BinOp.eql 65 (Operand.tmp 3) (Operand.const (Value.pointer none)) t3 (Value.pointer none))) w fun t4 w =>
    k (Env.p e 4 t4) w) := nr (by kernel_rfl)
theorem o33_2_eq : opsW N M G 9 V33 o33_2 k o33_2.toList [] e e w =
    (M (Value.int IntKind.i64 0) fun t2 =>
    k (Env.p e 2 t2) w) := nr (by kernel_rfl)
theorem c33_5_s (hw : Cur w) : W Try.prog 9 V33 c33_5 Q e w = (opsW (nx Try.prog) mv gdP 9 V33 o33_2 (fun e w => Q .ret e w) o33_2.toList [] e e w) := by rw [(by kernel_rfl : c33_5 = .seq (.region 2 o33_2 false) Code.ret), W_seq_reg]; simp only [W_ret, W_skip, W_exit, W_label]
theorem c33_4_v : opV V33 (.tmp 4) = true := by kernel_rfl
theorem c33_4_s (hw : Cur w) : W Try.prog 9 V33 c33_4 Q e w = (condP (ev e (.tmp 4)) (W Try.prog 9 V33 c33_5 Q e w) (Q .normal e w)) := by rw [(by kernel_rfl : c33_4 = .cond (.tmp 4) c33_5 Code.skip), W_cond, c33_4_v, cond_true]; simp only [W_ret, W_skip, W_exit, W_label]
theorem c33_3_s (hw : Cur w) : W Try.prog 9 V33 c33_3 Q e w = (opsW (nx Try.prog) mv gdP 9 V33 o33_1 (fun e w => W Try.prog 9 V33 c33_4 Q e w) o33_1.toList [] e e w) := by rw [(by kernel_rfl : c33_3 = .seq (.region 1 o33_1 false) c33_4), W_seq_reg]
theorem c33_1_s (hw : Cur w) : W Try.prog 9 V33 c33_1 Q e w = (W Try.prog 9 V33 c33_3 (seqQ (fun e w => W Try.prog 9 V33 c33_2 Q e w) Q) e w) := by rw [(by kernel_rfl : c33_1 = .seq c33_3 c33_2), W_seq]
theorem c33_s (hw : Cur w) : W Try.prog 9 V33 c33 Q e w = (opsW (nx Try.prog) mv gdP 9 V33 o33_0 (fun e w => W Try.prog 9 V33 c33_1 Q e w) o33_0.toList [] e e w) := by rw [(by kernel_rfl : c33 = .seq (.region 0 o33_0 false) c33_1), W_seq_reg]
theorem call33 {a0 : Value} {w : World} {R : Value → World → Prop} (h : W Try.prog 9 V33 c33 (retQ Try.prog [.tmp 2] R) (argE [a0]) w) : CallsN Try.prog 33 [a0] w R :=
  callsN_of_W (c := c33) (rs := [.tmp 2]) V33 Try.ntmps33 (by rw [Try.results33]) mixed Try.func33 (by kernel_rfl) (by kernel_rfl) (by kernel_rfl) (by kernel_rfl) (by simp) h
noncomputable def hk33 := And.intro (@o33_0_eq) <| And.intro (@o33_3_eq) <| And.intro (@c33_2_s) <| And.intro (@o33_1_eq) <| And.intro (@o33_2_eq) <| And.intro (@c33_5_s) <| And.intro (@c33_4_s) <| And.intro (@c33_3_s) <| And.intro (@c33_1_s) <| @c33_s
-- K33: ↓hk33
/-! ### (*vouch/gap.Gap[int]) . Waits -/
def V32 : Nat → Bool := fun i => [0, 2, 4].elem i
noncomputable def c32 : Code := (Try.f32.body.getD .skip)
noncomputable def o32_0 : Array Oper := rO (cL c32)
noncomputable def c32_1 : Code := (cR c32)
noncomputable def c32_2 : Code := (cR c32_1)
noncomputable def o32_3 : Array Oper := rO (cL c32_2)
noncomputable def c32_3 : Code := (cL c32_1)
noncomputable def o32_1 : Array Oper := rO (cL c32_3)
noncomputable def c32_4 : Code := (cR c32_3)
noncomputable def c32_5 : Code := (cL c32_4)
noncomputable def o32_2 : Array Oper := rO (cL c32_5)
theorem o32_0_eq : opsW N M G 11 V32 o32_0 k o32_0.toList [] e e w =
    (M (Value.slice none 0 0) fun t2 =>
    k (Env.p e 2 t2) w) := nr (by kernel_rfl)
theorem o32_3_eq : opsW N M G 11 V32 o32_3 k o32_3.toList [] e e w =
    (M (e 0) fun t5 =>
    N (xnil t5) w fun t6 w =>
    N (xv (Instr.fieldAt 130 t6 2)) w fun t7 w =>
    N (xv (Instr.loadAt 128 t7)) w fun t8 w =>
    N (xcall (Value.func (Fn.func 68) #[] #[]) [t8]) w fun t9 w =>
    N (xcall (Value.func (Fn.func 67) #[] #[]) [t9]) w fun t10 w =>
    M t10 fun t2 =>
    k (Env.p e 2 t2) w) := nr (by kernel_rfl)
theorem c32_2_s (hw : Cur w) : W Try.prog 11 V32 c32_2 Q e w = (opsW (nx Try.prog) mv gdP 11 V32 o32_3 (fun e w => Q .ret e w) o32_3.toList [] e e w) := by rw [(by kernel_rfl : c32_2 = .seq (.region 3 o32_3 false) Code.ret), W_seq_reg]; simp only [W_ret, W_skip, W_exit, W_label]
theorem o32_1_eq : opsW N M G 11 V32 o32_1 k o32_1.toList [] e e w =
    (M (e 0) fun t3 =>
    N (xv (xbin BinOp.eql 65 (Operand.tmp 3) (Operand.const (Value.pointer none)) t3 (Value.pointer none))) w fun t4 w =>
    k (Env.p e 4 t4) w) := nr (by kernel_rfl)
theorem o32_2_eq : opsW N M G 11 V32 o32_2 k o32_2.toList [] e e w =
    (M (Value.slice none 0 0) fun t2 =>
    k (Env.p e 2 t2) w) := nr (by kernel_rfl)
theorem c32_5_s (hw : Cur w) : W Try.prog 11 V32 c32_5 Q e w = (opsW (nx Try.prog) mv gdP 11 V32 o32_2 (fun e w => Q .ret e w) o32_2.toList [] e e w) := by rw [(by kernel_rfl : c32_5 = .seq (.region 2 o32_2 false) Code.ret), W_seq_reg]; simp only [W_ret, W_skip, W_exit, W_label]
theorem c32_4_v : opV V32 (.tmp 4) = true := by kernel_rfl
theorem c32_4_s (hw : Cur w) : W Try.prog 11 V32 c32_4 Q e w = (condP (ev e (.tmp 4)) (W Try.prog 11 V32 c32_5 Q e w) (Q .normal e w)) := by rw [(by kernel_rfl : c32_4 = .cond (.tmp 4) c32_5 Code.skip), W_cond, c32_4_v, cond_true]; simp only [W_ret, W_skip, W_exit, W_label]
theorem c32_3_s (hw : Cur w) : W Try.prog 11 V32 c32_3 Q e w = (opsW (nx Try.prog) mv gdP 11 V32 o32_1 (fun e w => W Try.prog 11 V32 c32_4 Q e w) o32_1.toList [] e e w) := by rw [(by kernel_rfl : c32_3 = .seq (.region 1 o32_1 false) c32_4), W_seq_reg]
theorem c32_1_s (hw : Cur w) : W Try.prog 11 V32 c32_1 Q e w = (W Try.prog 11 V32 c32_3 (seqQ (fun e w => W Try.prog 11 V32 c32_2 Q e w) Q) e w) := by rw [(by kernel_rfl : c32_1 = .seq c32_3 c32_2), W_seq]
theorem c32_s (hw : Cur w) : W Try.prog 11 V32 c32 Q e w = (opsW (nx Try.prog) mv gdP 11 V32 o32_0 (fun e w => W Try.prog 11 V32 c32_1 Q e w) o32_0.toList [] e e w) := by rw [(by kernel_rfl : c32 = .seq (.region 0 o32_0 false) c32_1), W_seq_reg]
theorem call32 {a0 : Value} {w : World} {R : Value → World → Prop} (h : W Try.prog 11 V32 c32 (retQ Try.prog [.tmp 2] R) (argE [a0]) w) : CallsN Try.prog 32 [a0] w R :=
  callsN_of_W (c := c32) (rs := [.tmp 2]) V32 Try.ntmps32 (by rw [Try.results32]) mixed Try.func32 (by kernel_rfl) (by kernel_rfl) (by kernel_rfl) (by kernel_rfl) (by simp) h
noncomputable def hk32 := And.intro (@o32_0_eq) <| And.intro (@o32_3_eq) <| And.intro (@c32_2_s) <| And.intro (@o32_1_eq) <| And.intro (@o32_2_eq) <| And.intro (@c32_5_s) <| And.intro (@c32_4_s) <| And.intro (@c32_3_s) <| And.intro (@c32_1_s) <| @c32_s
-- K32: ↓hk32
/-! ### (*vouch/gap.Gap[int]) . Clear -/
def V42 : Nat → Bool := fun i => [0, 1, 5].elem i
noncomputable def c42 : Code := (Try.f42.body.getD .skip)
noncomputable def o42_0 : Array Oper := rO (cL c42)
noncomputable def c42_1 : Code := (cR c42)
noncomputable def c42_2 : Code := (cL c42_1)
noncomputable def o42_1 : Array Oper := rO c42_2
theorem o42_0_eq : opsW N M G 16 V42 o42_0 k o42_0.toList [] e e w =
    (M (e 0) fun t4 =>
    N (xv (xbin BinOp.neq 65 (Operand.tmp 4) (Operand.const (Value.pointer none)) t4 (Value.pointer none))) w fun t5 w =>
    k (Env.p e 5 t5) w) := nr (by kernel_rfl)
theorem o42_1_eq : opsW N M G 16 V42 o42_1 k o42_1.toList [] e e w =
    (M (e 0) fun t6 =>
    M (e 0) fun t7 =>
    M (e 1) fun t8 =>
    N (builtin Builtin.max #[2, 2] 2 ([false, true]).toArray ([t8, (Value.int IntKind.i64 0)]).toArray) w fun t9 w =>
    N (builtin Builtin.min #[2, 2] 2 ([false, true]).toArray ([t9, (Value.int IntKind.i64 1099511627776)]).toArray) w fun t10 w =>
    N (xv (Instr.makeMap 128 none)) w fun t11 w =>
    N (xnil t6) w fun t12 w =>
    N (xv (Instr.fieldAt 130 t12 0)) w fun t13 w =>
    N (xu (Instr.storeAt 2 t13 t10)) w fun _ w =>
    N (xnil t7) w fun t14 w =>
    N (xv (Instr.fieldAt 130 t14 2)) w fun t15 w =>
    N (xu (Instr.storeAt 128 t15 t11)) w fun _ w =>
    k e w) := nr (by kernel_rfl)
theorem c42_2_s (hw : Cur w) : W Try.prog 16 V42 c42_2 Q e w = (opsW (nx Try.prog) mv gdP 16 V42 o42_1 (fun e w => Q .normal e w) o42_1.toList [] e e w) := by rw [(by kernel_rfl : c42_2 = (.region 1 o42_1 false)), W_reg]
theorem c42_1_v : opV V42 (.tmp 5) = true := by kernel_rfl
theorem c42_1_s (hw : Cur w) : W Try.prog 16 V42 c42_1 Q e w = (condP (ev e (.tmp 5)) (W Try.prog 16 V42 c42_2 Q e w) (Q .normal e w)) := by rw [(by kernel_rfl : c42_1 = .cond (.tmp 5) c42_2 Code.skip), W_cond, c42_1_v, cond_true]; simp only [W_ret, W_skip, W_exit, W_label]
theorem c42_s (hw : Cur w) : W Try.prog 16 V42 c42 Q e w = (opsW (nx Try.prog) mv gdP 16 V42 o42_0 (fun e w => W Try.prog 16 V42 c42_1 Q e w) o42_0.toList [] e e w) := by rw [(by kernel_rfl : c42 = .seq (.region 0 o42_0 false) c42_1), W_seq_reg]
theorem call42 {a0 a1 : Value} {w : World} {R : Value → World → Prop} (h : W Try.prog 16 V42 c42 (retQ Try.prog [] R) (argE [a0, a1]) w) : CallsN Try.prog 42 [a0, a1] w R :=
  callsN_of_W (c := c42) (rs := []) V42 Try.ntmps42 (by rw [Try.results42]) mixed Try.func42 (by kernel_rfl) (by kernel_rfl) (by kernel_rfl) (by kernel_rfl) (by simp) h
noncomputable def hk42 := And.intro (@o42_0_eq) <| And.intro (@o42_1_eq) <| And.intro (@c42_2_s) <| And.intro (@c42_1_s) <| @c42_s
-- K42: ↓hk42
/-! ### (*vouch/gap.Gap[int]) . Lacks -/
def V43 : Nat → Bool := fun i => [0, 2, 3, 8].elem i
noncomputable def c43 : Code := (Try.f43.body.getD .skip)
noncomputable def o43_0 : Array Oper := rO (cL c43)
noncomputable def c43_1 : Code := (cR c43)
noncomputable def o43_1 : Array Oper := rO (cL c43_1)
noncomputable def c43_2 : Code := (cR c43_1)
noncomputable def c43_3 : Code := (cR c43_2)
noncomputable def o43_4 : Array Oper := rO (cL c43_3)
noncomputable def c43_4 : Code := (cL c43_2)
noncomputable def o43_2 : Array Oper := rO (cL c43_4)
noncomputable def c43_5 : Code := (cR c43_4)
noncomputable def c43_6 : Code := (cL c43_5)
noncomputable def o43_3 : Array Oper := rO (cL c43_6)
theorem o43_0_eq : opsW N M G 19 V43 o43_0 k o43_0.toList [] e e w =
    (N (xv (Instr.alloc 86 true (.tuple #[]))) w fun t2 w =>
    k (Env.p e 2 t2) w) := nr (by kernel_rfl)
theorem o43_1_eq : opsW N M G 19 V43 o43_1 k o43_1.toList [] e e w =
    (M (e 0) fun t4 =>
    N (xcall (Value.func (Fn.func 32) #[] #[]) [t4]) w fun t5 w =>
    M t5 fun t3 =>
    k (Env.p e 3 t3) w) := nr (by kernel_rfl)
theorem o43_4_eq : drawGo N T M G H 19 V43 o43_4 S k o43_4.size true (Array.replicate o43_4.size false) [] e e w =
    (M (e 0) fun t10 =>
    T (xnil t10) fun t11 =>
    T (xv (Instr.fieldAt 130 t11 0)) fun t12 =>
    T (xv (Instr.loadAt 2 t12)) fun t13 =>
    T (xv (xbin BinOp.add 2 (Operand.tmp 13) (Operand.const (Value.int IntKind.i64 1)) t13 (Value.int IntKind.i64 1))) fun t14 =>
    M (e 3) fun t15 =>
    T (xv (Instr.indexAt 71 t15 (Value.int IntKind.i64 0))) fun t16 =>
    T (xv (Instr.loadAt 2 t16)) fun t17 =>
    N (xcall (Value.func (Fn.func 74) #[] #[]) [t14, t17]) w fun t18 w =>
    S w ∧ (N (xu (Instr.storeAt 86 (e 2) t18)) w fun _ w =>
    k e w)) := nr (by kernel_rfl)
theorem c43_3_s (hw : Cur w) : W Try.prog 19 V43 c43_3 Q e w = (∃ S : World → Prop, S w.drew ∧ drawGo (nx Try.prog) (takeP Try.prog S) mv gdP gdT 19 V43 o43_4 S (fun e w => Q .ret e w) o43_4.size true (Array.replicate o43_4.size false) [] e e w.drew) := by rw [(by kernel_rfl : c43_3 = .seq (.region 4 o43_4 true) Code.ret), W_seq_regD]; simp only [W_ret, W_skip, W_exit, W_label]
theorem o43_2_eq : opsW N M G 19 V43 o43_2 k o43_2.toList [] e e w =
    (M (e 3) fun t6 =>
    N (builtin Builtin.len #[71] 3 ([false]).toArray ([t6]).toArray) w fun t7 w =>
    N (xv (xbin BinOp.eql 3 (Operand.tmp 7) (Operand.const (Value.int IntKind.i64 0)) t7 (Value.int IntKind.i64 0))) w fun t8 w =>
    k (Env.p e 8 t8) w) := nr (by kernel_rfl)
theorem o43_3_eq : opsW N M G 19 V43 o43_3 k o43_3.toList [] e e w =
    (N (xv (Instr.build 86 ([]).toArray)) w fun t9 w =>
    N (xu (Instr.storeAt 86 (e 2) t9)) w fun _ w =>
    k e w) := nr (by kernel_rfl)
theorem c43_6_s (hw : Cur w) : W Try.prog 19 V43 c43_6 Q e w = (opsW (nx Try.prog) mv gdP 19 V43 o43_3 (fun e w => Q .ret e w) o43_3.toList [] e e w) := by rw [(by kernel_rfl : c43_6 = .seq (.region 3 o43_3 false) Code.ret), W_seq_reg]; simp only [W_ret, W_skip, W_exit, W_label]
theorem c43_5_v : opV V43 (.tmp 8) = true := by kernel_rfl
theorem c43_5_s (hw : Cur w) : W Try.prog 19 V43 c43_5 Q e w = (condP (ev e (.tmp 8)) (W Try.prog 19 V43 c43_6 Q e w) (Q .normal e w)) := by rw [(by kernel_rfl : c43_5 = .cond (.tmp 8) c43_6 Code.skip), W_cond, c43_5_v, cond_true]; simp only [W_ret, W_skip, W_exit, W_label]
theorem c43_4_s (hw : Cur w) : W Try.prog 19 V43 c43_4 Q e w = (opsW (nx Try.prog) mv gdP 19 V43 o43_2 (fun e w => W Try.prog 19 V43 c43_5 Q e w) o43_2.toList [] e e w) := by rw [(by kernel_rfl : c43_4 = .seq (.region 2 o43_2 false) c43_5), W_seq_reg]
theorem c43_2_s (hw : Cur w) : W Try.prog 19 V43 c43_2 Q e w = (W Try.prog 19 V43 c43_4 (seqQ (fun e w => W Try.prog 19 V43 c43_3 Q e w) Q) e w) := by rw [(by kernel_rfl : c43_2 = .seq c43_4 c43_3), W_seq]
theorem c43_1_s (hw : Cur w) : W Try.prog 19 V43 c43_1 Q e w = (opsW (nx Try.prog) mv gdP 19 V43 o43_1 (fun e w => W Try.prog 19 V43 c43_2 Q e w) o43_1.toList [] e e w) := by rw [(by kernel_rfl : c43_1 = .seq (.region 1 o43_1 false) c43_2), W_seq_reg]
theorem c43_s (hw : Cur w) : W Try.prog 19 V43 c43 Q e w = (opsW (nx Try.prog) mv gdP 19 V43 o43_0 (fun e w => W Try.prog 19 V43 c43_1 Q e w) o43_0.toList [] e e w) := by rw [(by kernel_rfl : c43 = .seq (.region 0 o43_0 false) c43_1), W_seq_reg]
theorem call43 {a0 : Value} {w : World} {R : Value → World → Prop} (h : W Try.prog 19 V43 c43 (retQ Try.prog [.cell 2 86] R) (argE [a0]) w) : CallsN Try.prog 43 [a0] w R :=
  callsN_of_W (c := c43) (rs := [.cell 2 86]) V43 Try.ntmps43 (by rw [Try.results43]) mixed Try.func43 (by kernel_rfl) (by kernel_rfl) (by kernel_rfl) (by kernel_rfl) (by simp) h
noncomputable def hk43 := And.intro (@o43_0_eq) <| And.intro (@o43_1_eq) <| And.intro (@o43_4_eq) <| And.intro (@c43_3_s) <| And.intro (@o43_2_eq) <| And.intro (@o43_3_eq) <| And.intro (@c43_6_s) <| And.intro (@c43_5_s) <| And.intro (@c43_4_s) <| And.intro (@c43_2_s) <| And.intro (@c43_1_s) <| @c43_s
-- K43: ↓hk43
/-! ### (*vouch/gap.Gap[int]) . out -/
def V66 : Nat → Bool := fun i => [0, 1, 4, 5, 6, 7, 31].elem i
noncomputable def c66 : Code := (Try.f66.body.getD .skip)
noncomputable def o66_0 : Array Oper := rO (cL c66)
noncomputable def c66_1 : Code := (cR c66)
noncomputable def o66_1 : Array Oper := rO (cL c66_1)
noncomputable def c66_2 : Code := (cR c66_1)
noncomputable def o66_2 : Array Oper := rO (cL c66_2)
noncomputable def c66_3 : Code := (cR c66_2)
noncomputable def c66_4 : Code := (cL c66_3)
noncomputable def c66_5 : Code := (cL c66_4)
noncomputable def c66_6 : Code := (cL c66_5)
noncomputable def o66_3 : Array Oper := rO (cL c66_6)
noncomputable def c66_7 : Code := (cR c66_6)
noncomputable def c66_8 : Code := (cR c66_7)
noncomputable def o66_6 : Array Oper := rO (cL c66_8)
noncomputable def c66_9 : Code := (cR c66_8)
noncomputable def o66_7 : Array Oper := rO (cL c66_9)
noncomputable def c66_10 : Code := (cR c66_9)
noncomputable def o66_8 : Array Oper := rO c66_10
noncomputable def c66_11 : Code := (cL c66_7)
noncomputable def o66_4 : Array Oper := rO (cL c66_11)
noncomputable def c66_12 : Code := (cR c66_11)
noncomputable def c66_13 : Code := (cL c66_12)
noncomputable def o66_5 : Array Oper := rO (cL c66_13)
theorem o66_0_eq : opsW N M G 52 V66 o66_0 k o66_0.toList [] e e w =
    (M (Value.slice none 0 0) fun t4 =>
    k (Env.p e 4 t4) w) := nr (by kernel_rfl)
theorem o66_1_eq : opsW N M G 52 V66 o66_1 k o66_1.toList [] e e w =
    (M (e 1) fun t8 =>
    N (xv (Instr.buildSlice 68 1 ([(0, t8)]).toArray)) w fun t9 w =>
    M t9 fun t5 =>
    k (Env.p e 5 t5) w) := nr (by kernel_rfl)
theorem o66_2_eq : opsW N M G 52 V66 o66_2 k o66_2.toList [] e e w =
    (M (e 0) fun t10 =>
    N (xnil t10) w fun t11 w =>
    N (xv (Instr.fieldAt 130 t11 0)) w fun t12 w =>
    N (xv (Instr.loadAt 2 t12)) w fun t13 w =>
    N (xv (xbin BinOp.add 2 (Operand.tmp 13) (Operand.const (Value.int IntKind.i64 1)) t13 (Value.int IntKind.i64 1))) w fun t14 w =>
    N (xnil t10) w fun t15 w =>
    N (xv (Instr.fieldAt 130 t15 0)) w fun t16 w =>
    N (xu (Instr.storeAt 2 t16 t14)) w fun _ w =>
    k e w) := nr (by kernel_rfl)
theorem o66_3_eq : drawGo N T M G H 52 V66 o66_3 S k o66_3.size true (Array.replicate o66_3.size false) [] e e w =
    (M (e 0) fun t18 =>
    T (xnil t18) fun t19 =>
    T (xv (Instr.fieldAt 130 t19 2)) fun t20 =>
    T (xv (Instr.loadAt 128 t20)) fun t21 =>
    M (e 0) fun t22 =>
    T (xnil t22) fun t23 =>
    T (xv (Instr.fieldAt 130 t23 0)) fun t24 =>
    T (xv (Instr.loadAt 2 t24)) fun t25 =>
    T (xv (xbin BinOp.add 2 (Operand.tmp 25) (Operand.const (Value.int IntKind.i64 1)) t25 (Value.int IntKind.i64 1))) fun t26 =>
    T (xv (Instr.lookup 128 t21 t26 true)) fun t27 =>
    M t27 fun t17 =>
    T (xv (Instr.extract t17 0)) fun t28 =>
    T (xv (Instr.extract t17 1)) fun t29 =>
    M t28 fun t6 =>
    M t29 fun t7 =>
    k (Env.p (Env.p e 6 t6) 7 t7) w) := nr (by kernel_rfl)
theorem o66_6_eq : opsW N M G 52 V66 o66_6 k o66_6.toList [] e e w =
    (M (e 5) fun t33 =>
    M (e 6) fun t34 =>
    N (xv (Instr.buildSlice 68 1 ([(0, t34)]).toArray)) w fun t35 w =>
    N (builtin Builtin.append #[68, 68] 68 ([false, false]).toArray ([t33, t35]).toArray) w fun t36 w =>
    M t36 fun t5 =>
    k (Env.p e 5 t5) w) := nr (by kernel_rfl)
theorem o66_7_eq : opsW N M G 52 V66 o66_7 k o66_7.toList [] e e w =
    (M (e 0) fun t37 =>
    N (xnil t37) w fun t38 w =>
    N (xv (Instr.fieldAt 130 t38 0)) w fun t39 w =>
    N (xv (Instr.loadAt 2 t39)) w fun t40 w =>
    N (xv (xbin BinOp.add 2 (Operand.tmp 40) (Operand.const (Value.int IntKind.i64 1)) t40 (Value.int IntKind.i64 1))) w fun t41 w =>
    N (xnil t37) w fun t42 w =>
    N (xv (Instr.fieldAt 130 t42 0)) w fun t43 w =>
    N (xu (Instr.storeAt 2 t43 t41)) w fun _ w =>
    k e w) := nr (by kernel_rfl)
theorem o66_8_eq : drawGo N T M G H 52 V66 o66_8 S k o66_8.size true (Array.replicate o66_8.size false) [] e e w =
    (M (e 0) fun t44 =>
    T (xnil t44) fun t45 =>
    T (xv (Instr.fieldAt 130 t45 2)) fun t46 =>
    T (xv (Instr.loadAt 128 t46)) fun t47 =>
    M (e 0) fun t48 =>
    T (xnil t48) fun t49 =>
    T (xv (Instr.fieldAt 130 t49 0)) fun t50 =>
    T (xv (Instr.loadAt 2 t50)) fun t51 =>
    N (builtin Builtin.delete #[128, 2] 0 ([false, false]).toArray ([t47, t51]).toArray) w fun _ w =>
    S w ∧ (k e w)) := nr (by kernel_rfl)
theorem c66_10_s (hw : Cur w) : W Try.prog 52 V66 c66_10 Q e w = (∃ S : World → Prop, S w.drew ∧ drawGo (nx Try.prog) (takeP Try.prog S) mv gdP gdT 52 V66 o66_8 S (fun e w => Q .normal e w) o66_8.size true (Array.replicate o66_8.size false) [] e e w.drew) := by rw [(by kernel_rfl : c66_10 = (.region 8 o66_8 true)), W_regD']
theorem c66_9_s (hw : Cur w) : W Try.prog 52 V66 c66_9 Q e w = (opsW (nx Try.prog) mv gdP 52 V66 o66_7 (fun e w => W Try.prog 52 V66 c66_10 Q e w) o66_7.toList [] e e w) := by rw [(by kernel_rfl : c66_9 = .seq (.region 7 o66_7 false) c66_10), W_seq_reg]
theorem c66_8_s (hw : Cur w) : W Try.prog 52 V66 c66_8 Q e w = (opsW (nx Try.prog) mv gdP 52 V66 o66_6 (fun e w => W Try.prog 52 V66 c66_9 Q e w) o66_6.toList [] e e w) := by rw [(by kernel_rfl : c66_8 = .seq (.region 6 o66_6 false) c66_9), W_seq_reg]
theorem o66_4_eq : opsW N M G 52 V66 o66_4 k o66_4.toList [] e e w =
    (M (e 7) fun t30 =>
    N (xv (Op.unary UnOp.not t30)) w fun t31 w =>
    k (Env.p e 31 t31) w) := nr (by kernel_rfl)
theorem o66_5_eq : opsW N M G 52 V66 o66_5 k o66_5.toList [] e e w =
    (M (e 5) fun t32 =>
    M t32 fun t4 =>
    k (Env.p e 4 t4) w) := nr (by kernel_rfl)
theorem c66_13_s (hw : Cur w) : W Try.prog 52 V66 c66_13 Q e w = (opsW (nx Try.prog) mv gdP 52 V66 o66_5 (fun e w => Q .ret e w) o66_5.toList [] e e w) := by rw [(by kernel_rfl : c66_13 = .seq (.region 5 o66_5 false) Code.ret), W_seq_reg]; simp only [W_ret, W_skip, W_exit, W_label]
theorem c66_12_v : opV V66 (.tmp 31) = true := by kernel_rfl
theorem c66_12_s (hw : Cur w) : W Try.prog 52 V66 c66_12 Q e w = (condP (ev e (.tmp 31)) (W Try.prog 52 V66 c66_13 Q e w) (Q .normal e w)) := by rw [(by kernel_rfl : c66_12 = .cond (.tmp 31) c66_13 Code.skip), W_cond, c66_12_v, cond_true]; simp only [W_ret, W_skip, W_exit, W_label]
theorem c66_11_s (hw : Cur w) : W Try.prog 52 V66 c66_11 Q e w = (opsW (nx Try.prog) mv gdP 52 V66 o66_4 (fun e w => W Try.prog 52 V66 c66_12 Q e w) o66_4.toList [] e e w) := by rw [(by kernel_rfl : c66_11 = .seq (.region 4 o66_4 false) c66_12), W_seq_reg]
theorem c66_7_s (hw : Cur w) : W Try.prog 52 V66 c66_7 Q e w = (W Try.prog 52 V66 c66_11 (seqQ (fun e w => W Try.prog 52 V66 c66_8 Q e w) Q) e w) := by rw [(by kernel_rfl : c66_7 = .seq c66_11 c66_8), W_seq]
theorem c66_6_s (hw : Cur w) : W Try.prog 52 V66 c66_6 Q e w = (∃ S : World → Prop, S w.drew ∧ drawGo (nx Try.prog) (takeP Try.prog S) mv gdP gdT 52 V66 o66_3 S (fun e w => W Try.prog 52 V66 c66_7 Q e w) o66_3.size true (Array.replicate o66_3.size false) [] e e w.drew) := by rw [(by kernel_rfl : c66_6 = .seq (.region 3 o66_3 true) c66_7), W_seq_regD]
theorem c66_5_s (hw : Cur w) : W Try.prog 52 V66 c66_5 Q e w = (W Try.prog 52 V66 c66_6 (blockQ 1 Q) e w) := by rw [(by kernel_rfl : c66_5 = .block 1 c66_6), W_block]
theorem c66_4_s (hw : Cur w) : W Try.prog 52 V66 c66_4 Q e w = (LoopP (fun e w k => W Try.prog 52 V66 c66_5 (seqQ k Q) e w) e w) := by rw [(by kernel_rfl : c66_4 = .loop c66_5), W_loop]
theorem c66_3_s (hw : Cur w) : W Try.prog 52 V66 c66_3 Q e w = (W Try.prog 52 V66 c66_4 (blockQ 0 Q) e w) := by rw [(by kernel_rfl : c66_3 = .block 0 c66_4), W_block]
theorem c66_2_s (hw : Cur w) : W Try.prog 52 V66 c66_2 Q e w = (opsW (nx Try.prog) mv gdP 52 V66 o66_2 (fun e w => W Try.prog 52 V66 c66_3 Q e w) o66_2.toList [] e e w) := by rw [(by kernel_rfl : c66_2 = .seq (.region 2 o66_2 false) c66_3), W_seq_reg]
theorem c66_1_s (hw : Cur w) : W Try.prog 52 V66 c66_1 Q e w = (opsW (nx Try.prog) mv gdP 52 V66 o66_1 (fun e w => W Try.prog 52 V66 c66_2 Q e w) o66_1.toList [] e e w) := by rw [(by kernel_rfl : c66_1 = .seq (.region 1 o66_1 false) c66_2), W_seq_reg]
theorem c66_s (hw : Cur w) : W Try.prog 52 V66 c66 Q e w = (opsW (nx Try.prog) mv gdP 52 V66 o66_0 (fun e w => W Try.prog 52 V66 c66_1 Q e w) o66_0.toList [] e e w) := by rw [(by kernel_rfl : c66 = .seq (.region 0 o66_0 false) c66_1), W_seq_reg]
theorem call66 {a0 a1 : Value} {w : World} {R : Value → World → Prop} (h : W Try.prog 52 V66 c66 (retQ Try.prog [.tmp 4] R) (argE [a0, a1]) w) : CallsN Try.prog 66 [a0, a1] w R :=
  callsN_of_W (c := c66) (rs := [.tmp 4]) V66 Try.ntmps66 (by rw [Try.results66]) mixed Try.func66 (by kernel_rfl) (by kernel_rfl) (by kernel_rfl) (by kernel_rfl) (by simp) h
noncomputable def hk66 := And.intro (@o66_0_eq) <| And.intro (@o66_1_eq) <| And.intro (@o66_2_eq) <| And.intro (@o66_3_eq) <| And.intro (@o66_6_eq) <| And.intro (@o66_7_eq) <| And.intro (@o66_8_eq) <| And.intro (@c66_10_s) <| And.intro (@c66_9_s) <| And.intro (@c66_8_s) <| And.intro (@o66_4_eq) <| And.intro (@o66_5_eq) <| And.intro (@c66_13_s) <| And.intro (@c66_12_s) <| And.intro (@c66_11_s) <| And.intro (@c66_7_s) <| And.intro (@c66_6_s) <| And.intro (@c66_5_s) <| And.intro (@c66_4_s) <| And.intro (@c66_3_s) <| And.intro (@c66_2_s) <| And.intro (@c66_1_s) <| @c66_s
-- K66: ↓hk66
/-! ### vouch/gap.New[int64] -/
def V35 : Nat → Bool := fun i => [0, 1, 4, 5].elem i
noncomputable def c35 : Code := (Try.f35.body.getD .skip)
noncomputable def o35_0 : Array Oper := rO (cL c35)
noncomputable def c35_1 : Code := (cR c35)
noncomputable def o35_1 : Array Oper := rO (cL c35_1)
noncomputable def c35_2 : Code := (cR c35_1)
noncomputable def o35_2 : Array Oper := rO (cL c35_2)
noncomputable def c35_3 : Code := (cR c35_2)
noncomputable def o35_3 : Array Oper := rO (cL c35_3)
theorem o35_0_eq : opsW N M G 15 V35 o35_0 k o35_0.toList [] e e w =
    (M (Value.pointer none) fun t4 =>
    k (Env.p e 4 t4) w) := nr (by kernel_rfl)
theorem o35_1_eq : opsW N M G 15 V35 o35_1 k o35_1.toList [] e e w =
    (M (e 1) fun t6 =>
    N (builtin Builtin.max #[3, 3] 3 ([false, true]).toArray ([t6, (Value.int IntKind.i64 0)]).toArray) w fun t7 w =>
    N (builtin Builtin.min #[3, 3] 3 ([false, true]).toArray ([t7, (Value.int IntKind.i64 256)]).toArray) w fun t8 w =>
    N (xv (Instr.build 139 ([(1, t8)]).toArray)) w fun t9 w =>
    N (xv (Instr.box 139 t9)) w fun t10 w =>
    M t10 fun t5 =>
    k (Env.p e 5 t5) w) := nr (by kernel_rfl)
theorem o35_2_eq : opsW N M G 15 V35 o35_2 k o35_2.toList [] e e w =
    (M (e 5) fun t11 =>
    M (e 0) fun t12 =>
    N (xcall (Value.func (Fn.func 69) #[] #[]) [t11, t12]) w fun t13 w =>
    k e w) := nr (by kernel_rfl)
theorem o35_3_eq : opsW N M G 15 V35 o35_3 k o35_3.toList [] e e w =
    (M (e 5) fun t14 =>
    M t14 fun t4 =>
    k (Env.p e 4 t4) w) := nr (by kernel_rfl)
theorem c35_3_s (hw : Cur w) : W Try.prog 15 V35 c35_3 Q e w = (opsW (nx Try.prog) mv gdP 15 V35 o35_3 (fun e w => Q .ret e w) o35_3.toList [] e e w) := by rw [(by kernel_rfl : c35_3 = .seq (.region 3 o35_3 false) Code.ret), W_seq_reg]; simp only [W_ret, W_skip, W_exit, W_label]
theorem c35_2_s (hw : Cur w) : W Try.prog 15 V35 c35_2 Q e w = (opsW (nx Try.prog) mv gdP 15 V35 o35_2 (fun e w => W Try.prog 15 V35 c35_3 Q e w) o35_2.toList [] e e w) := by rw [(by kernel_rfl : c35_2 = .seq (.region 2 o35_2 false) c35_3), W_seq_reg]
theorem c35_1_s (hw : Cur w) : W Try.prog 15 V35 c35_1 Q e w = (opsW (nx Try.prog) mv gdP 15 V35 o35_1 (fun e w => W Try.prog 15 V35 c35_2 Q e w) o35_1.toList [] e e w) := by rw [(by kernel_rfl : c35_1 = .seq (.region 1 o35_1 false) c35_2), W_seq_reg]
theorem c35_s (hw : Cur w) : W Try.prog 15 V35 c35 Q e w = (opsW (nx Try.prog) mv gdP 15 V35 o35_0 (fun e w => W Try.prog 15 V35 c35_1 Q e w) o35_0.toList [] e e w) := by rw [(by kernel_rfl : c35 = .seq (.region 0 o35_0 false) c35_1), W_seq_reg]
theorem call35 {a0 a1 : Value} {w : World} {R : Value → World → Prop} (h : W Try.prog 15 V35 c35 (retQ Try.prog [.tmp 4] R) (argE [a0, a1]) w) : CallsN Try.prog 35 [a0, a1] w R :=
  callsN_of_W (c := c35) (rs := [.tmp 4]) V35 Try.ntmps35 (by rw [Try.results35]) mixed Try.func35 (by kernel_rfl) (by kernel_rfl) (by kernel_rfl) (by kernel_rfl) (by simp) h
noncomputable def hk35 := And.intro (@o35_0_eq) <| And.intro (@o35_1_eq) <| And.intro (@o35_2_eq) <| And.intro (@o35_3_eq) <| And.intro (@c35_3_s) <| And.intro (@c35_2_s) <| And.intro (@c35_1_s) <| @c35_s
-- K35: ↓hk35
/-! ### (*vouch/gap.Gap[int64]) . Put -/
def V36 : Nat → Bool := fun i => [0, 1, 2, 6, 7, 9, 23, 33, 40, 53].elem i
noncomputable def c36 : Code := (Try.f36.body.getD .skip)
noncomputable def o36_0 : Array Oper := rO (cL c36)
noncomputable def c36_1 : Code := (cR c36)
noncomputable def c36_2 : Code := (cR c36_1)
noncomputable def c36_3 : Code := (cR c36_2)
noncomputable def c36_4 : Code := (cR c36_3)
noncomputable def c36_5 : Code := (cR c36_4)
noncomputable def o36_11 : Array Oper := rO (cL c36_5)
noncomputable def c36_6 : Code := (cR c36_5)
noncomputable def o36_12 : Array Oper := rO (cL c36_6)
noncomputable def c36_7 : Code := (cL c36_4)
noncomputable def o36_8 : Array Oper := rO (cL c36_7)
noncomputable def c36_8 : Code := (cR c36_7)
noncomputable def c36_9 : Code := (cL c36_8)
noncomputable def o36_9 : Array Oper := rO (cL c36_9)
noncomputable def c36_10 : Code := (cR c36_9)
noncomputable def o36_10 : Array Oper := rO (cL c36_10)
noncomputable def c36_11 : Code := (cL c36_3)
noncomputable def o36_6 : Array Oper := rO (cL c36_11)
noncomputable def c36_12 : Code := (cR c36_11)
noncomputable def c36_13 : Code := (cL c36_12)
noncomputable def o36_7 : Array Oper := rO (cL c36_13)
noncomputable def c36_14 : Code := (cL c36_2)
noncomputable def o36_3 : Array Oper := rO (cL c36_14)
noncomputable def c36_15 : Code := (cR c36_14)
noncomputable def o36_4 : Array Oper := rO (cL c36_15)
noncomputable def c36_16 : Code := (cR c36_15)
noncomputable def c36_17 : Code := (cL c36_16)
noncomputable def o36_5 : Array Oper := rO (cL c36_17)
noncomputable def c36_18 : Code := (cL c36_1)
noncomputable def o36_1 : Array Oper := rO (cL c36_18)
noncomputable def c36_19 : Code := (cR c36_18)
noncomputable def c36_20 : Code := (cL c36_19)
noncomputable def o36_2 : Array Oper := rO (cL c36_20)
theorem o36_0_eq : opsW N M G 64 V36 o36_0 k o36_0.toList [] e e w =
    (M (Value.slice none 0 0) fun t6 =>
    M (Value.bool false) fun t7 =>
    k (Env.p (Env.p e 6 t6) 7 t7) w) := nr (by kernel_rfl)
theorem o36_11_eq : opsW N M G 64 V36 o36_11 k o36_11.toList [] e e w =
    (M (e 0) fun t58 =>
    N (xnil t58) w fun t59 w =>
    N (xv (Instr.fieldAt 139 t59 2)) w fun t60 w =>
    N (xv (Instr.loadAt 137 t60)) w fun t61 w =>
    M (e 1) fun t62 =>
    M (e 2) fun t63 =>
    N (xu (Instr.mapUpdate 137 t61 t62 t63)) w fun _ w =>
    k e w) := nr (by kernel_rfl)
theorem o36_12_eq : opsW N M G 64 V36 o36_12 k o36_12.toList [] e e w =
    (M (Value.slice none 0 0) fun t6 =>
    M (Value.bool false) fun t7 =>
    k (Env.p (Env.p e 6 t6) 7 t7) w) := nr (by kernel_rfl)
theorem c36_6_s (hw : Cur w) : W Try.prog 64 V36 c36_6 Q e w = (opsW (nx Try.prog) mv gdP 64 V36 o36_12 (fun e w => Q .ret e w) o36_12.toList [] e e w) := by rw [(by kernel_rfl : c36_6 = .seq (.region 12 o36_12 false) Code.ret), W_seq_reg]; simp only [W_ret, W_skip, W_exit, W_label]
theorem c36_5_s (hw : Cur w) : W Try.prog 64 V36 c36_5 Q e w = (opsW (nx Try.prog) mv gdP 64 V36 o36_11 (fun e w => W Try.prog 64 V36 c36_6 Q e w) o36_11.toList [] e e w) := by rw [(by kernel_rfl : c36_5 = .seq (.region 11 o36_11 false) c36_6), W_seq_reg]
theorem o36_8_eq : drawGo N T M G H 64 V36 o36_8 S k o36_8.size true (Array.replicate o36_8.size false) [] e e w =
    (M (e 0) fun t44 =>
    T (xnil t44) fun t45 =>
    T (xv (Instr.fieldAt 139 t45 2)) fun t46 =>
    T (xv (Instr.loadAt 137 t46)) fun t47 =>
    T (builtin Builtin.len #[137] 3 ([false]).toArray ([t47]).toArray) fun t48 =>
    M (e 0) fun t49 =>
    T (xnil t49) fun t50 =>
    T (xv (Instr.fieldAt 139 t50 1)) fun t51 =>
    T (xv (Instr.loadAt 3 t51)) fun t52 =>
    T (xv (xbin BinOp.geq 3 (Operand.tmp 48) (Operand.tmp 52) t48 t52)) fun t53 =>
    k (Env.p e 53 t53) w) := nr (by kernel_rfl)
theorem o36_9_eq : opsW N M G 64 V36 o36_9 k o36_9.toList [] e e w =
    (M (e 0) fun t54 =>
    N (xnil t54) w fun t55 w =>
    N (xv (Instr.fieldAt 139 t55 2)) w fun t56 w =>
    N (xv (Instr.loadAt 137 t56)) w fun t57 w =>
    N (builtin Builtin.clear #[137] 0 ([false]).toArray ([t57]).toArray) w fun _ w =>
    k e w) := nr (by kernel_rfl)
theorem o36_10_eq : opsW N M G 64 V36 o36_10 k o36_10.toList [] e e w =
    (M (Value.slice none 0 0) fun t6 =>
    M (Value.bool true) fun t7 =>
    k (Env.p (Env.p e 6 t6) 7 t7) w) := nr (by kernel_rfl)
theorem c36_10_s (hw : Cur w) : W Try.prog 64 V36 c36_10 Q e w = (opsW (nx Try.prog) mv gdP 64 V36 o36_10 (fun e w => Q .ret e w) o36_10.toList [] e e w) := by rw [(by kernel_rfl : c36_10 = .seq (.region 10 o36_10 false) Code.ret), W_seq_reg]; simp only [W_ret, W_skip, W_exit, W_label]
theorem c36_9_s (hw : Cur w) : W Try.prog 64 V36 c36_9 Q e w = (opsW (nx Try.prog) mv gdP 64 V36 o36_9 (fun e w => W Try.prog 64 V36 c36_10 Q e w) o36_9.toList [] e e w) := by rw [(by kernel_rfl : c36_9 = .seq (.region 9 o36_9 false) c36_10), W_seq_reg]
theorem c36_8_v : opV V36 (.tmp 53) = true := by kernel_rfl
theorem c36_8_s (hw : Cur w) : W Try.prog 64 V36 c36_8 Q e w = (condP (ev e (.tmp 53)) (W Try.prog 64 V36 c36_9 Q e w) (Q .normal e w)) := by rw [(by kernel_rfl : c36_8 = .cond (.tmp 53) c36_9 Code.skip), W_cond, c36_8_v, cond_true]; simp only [W_ret, W_skip, W_exit, W_label]
theorem c36_7_s (hw : Cur w) : W Try.prog 64 V36 c36_7 Q e w = (∃ S : World → Prop, S w.drew ∧ drawGo (nx Try.prog) (takeP Try.prog S) mv gdP gdT 64 V36 o36_8 S (fun e w => W Try.prog 64 V36 c36_8 Q e w) o36_8.size true (Array.replicate o36_8.size false) [] e e w.drew) := by rw [(by kernel_rfl : c36_7 = .seq (.region 8 o36_8 true) c36_8), W_seq_regD]
theorem c36_4_s (hw : Cur w) : W Try.prog 64 V36 c36_4 Q e w = (W Try.prog 64 V36 c36_7 (seqQ (fun e w => W Try.prog 64 V36 c36_5 Q e w) Q) e w) := by rw [(by kernel_rfl : c36_4 = .seq c36_7 c36_5), W_seq]
theorem o36_6_eq : opsW N M G 64 V36 o36_6 k o36_6.toList [] e e w =
    (M (e 1) fun t34 =>
    M (e 0) fun t35 =>
    N (xnil t35) w fun t36 w =>
    N (xv (Instr.fieldAt 139 t36 0)) w fun t37 w =>
    N (xv (Instr.loadAt 2 t37)) w fun t38 w =>
    N (xv (xbin BinOp.add 2 (Operand.tmp 38) (Operand.const (Value.int IntKind.i64 1)) t38 (Value.int IntKind.i64 1))) w fun t39 w =>
    N (xv (xbin BinOp.eql 2 (Operand.tmp 34) (Operand.tmp 39) t34 t39)) w fun t40 w =>
    k (Env.p e 40 t40) w) := nr (by kernel_rfl)
theorem o36_7_eq : opsW N M G 64 V36 o36_7 k o36_7.toList [] e e w =
    (M (e 0) fun t41 =>
    M (e 2) fun t42 =>
    N (xcall (Value.func (Fn.func 70) #[] #[]) [t41, t42]) w fun t43 w =>
    M t43 fun t6 =>
    M (Value.bool false) fun t7 =>
    k (Env.p (Env.p e 6 t6) 7 t7) w) := nr (by kernel_rfl)
theorem c36_13_s (hw : Cur w) : W Try.prog 64 V36 c36_13 Q e w = (opsW (nx Try.prog) mv gdP 64 V36 o36_7 (fun e w => Q .ret e w) o36_7.toList [] e e w) := by rw [(by kernel_rfl : c36_13 = .seq (.region 7 o36_7 false) Code.ret), W_seq_reg]; simp only [W_ret, W_skip, W_exit, W_label]
theorem c36_12_v : opV V36 (.tmp 40) = true := by kernel_rfl
theorem c36_12_s (hw : Cur w) : W Try.prog 64 V36 c36_12 Q e w = (condP (ev e (.tmp 40)) (W Try.prog 64 V36 c36_13 Q e w) (Q .normal e w)) := by rw [(by kernel_rfl : c36_12 = .cond (.tmp 40) c36_13 Code.skip), W_cond, c36_12_v, cond_true]; simp only [W_ret, W_skip, W_exit, W_label]
theorem c36_11_s (hw : Cur w) : W Try.prog 64 V36 c36_11 Q e w = (opsW (nx Try.prog) mv gdP 64 V36 o36_6 (fun e w => W Try.prog 64 V36 c36_12 Q e w) o36_6.toList [] e e w) := by rw [(by kernel_rfl : c36_11 = .seq (.region 6 o36_6 false) c36_12), W_seq_reg]
theorem c36_3_s (hw : Cur w) : W Try.prog 64 V36 c36_3 Q e w = (W Try.prog 64 V36 c36_11 (seqQ (fun e w => W Try.prog 64 V36 c36_4 Q e w) Q) e w) := by rw [(by kernel_rfl : c36_3 = .seq c36_11 c36_4), W_seq]
theorem o36_3_eq : opsW N M G 64 V36 o36_3 k o36_3.toList [] e e w =
    (M (e 0) fun t25 =>
    N (xnil t25) w fun t26 w =>
    N (xv (Instr.fieldAt 139 t26 2)) w fun t27 w =>
    N (xv (Instr.loadAt 137 t27)) w fun t28 w =>
    M (e 1) fun t29 =>
    N (xv (Instr.lookup 137 t28 t29 true)) w fun t30 w =>
    M t30 fun t24 =>
    N (xv (Instr.extract t24 0)) w fun t31 w =>
    N (xv (Instr.extract t24 1)) w fun t32 w =>
    M t31 fun t8 =>
    M t32 fun t9 =>
    k (Env.p e 9 t9) w) := nr (by kernel_rfl)
theorem o36_4_eq : opsW N M G 64 V36 o36_4 k o36_4.toList [] e e w =
    (M (e 9) fun t33 =>
    k (Env.p e 33 t33) w) := nr (by kernel_rfl)
theorem o36_5_eq : opsW N M G 64 V36 o36_5 k o36_5.toList [] e e w =
    (M (Value.slice none 0 0) fun t6 =>
    M (Value.bool false) fun t7 =>
    k (Env.p (Env.p e 6 t6) 7 t7) w) := nr (by kernel_rfl)
theorem c36_17_s (hw : Cur w) : W Try.prog 64 V36 c36_17 Q e w = (opsW (nx Try.prog) mv gdP 64 V36 o36_5 (fun e w => Q .ret e w) o36_5.toList [] e e w) := by rw [(by kernel_rfl : c36_17 = .seq (.region 5 o36_5 false) Code.ret), W_seq_reg]; simp only [W_ret, W_skip, W_exit, W_label]
theorem c36_16_v : opV V36 (.tmp 33) = true := by kernel_rfl
theorem c36_16_s (hw : Cur w) : W Try.prog 64 V36 c36_16 Q e w = (condP (ev e (.tmp 33)) (W Try.prog 64 V36 c36_17 Q e w) (Q .normal e w)) := by rw [(by kernel_rfl : c36_16 = .cond (.tmp 33) c36_17 Code.skip), W_cond, c36_16_v, cond_true]; simp only [W_ret, W_skip, W_exit, W_label]
theorem c36_15_s (hw : Cur w) : W Try.prog 64 V36 c36_15 Q e w = (opsW (nx Try.prog) mv gdP 64 V36 o36_4 (fun e w => W Try.prog 64 V36 c36_16 Q e w) o36_4.toList [] e e w) := by rw [(by kernel_rfl : c36_15 = .seq (.region 4 o36_4 false) c36_16), W_seq_reg]
theorem c36_14_s (hw : Cur w) : W Try.prog 64 V36 c36_14 Q e w = (opsW (nx Try.prog) mv gdP 64 V36 o36_3 (fun e w => W Try.prog 64 V36 c36_15 Q e w) o36_3.toList [] e e w) := by rw [(by kernel_rfl : c36_14 = .seq (.region 3 o36_3 false) c36_15), W_seq_reg]
theorem c36_2_s (hw : Cur w) : W Try.prog 64 V36 c36_2 Q e w = (W Try.prog 64 V36 c36_14 (seqQ (fun e w => W Try.prog 64 V36 c36_3 Q e w) Q) e w) := by rw [(by kernel_rfl : c36_2 = .seq c36_14 c36_3), W_seq]
theorem o36_1_eq : opsW N M G 64 V36 o36_1 k o36_1.toList [] e e w =
    (M (e 0) fun t10 =>
    N (xv (xbin BinOp.eql 76 (Operand.tmp 10) (Operand.const (Value.pointer none)) t10 (Value.pointer none))) w fun t11 w =>
    M t11 fun t12 =>
    G (isB t12 false) (fun K => M (e 1) fun v => K v w) (fun t13 w =>
    G (isB t12 false) (fun K => M (e 0) fun v => K v w) (fun t14 w =>
    G (isB t12 false) (fun K => N (xnil t14) w K) (fun t15 w =>
    G (isB t12 false) (fun K => N (xv (Instr.fieldAt 139 t15 0)) w K) (fun t16 w =>
    G (isB t12 false) (fun K => N (xv (Instr.loadAt 2 t16)) w K) (fun t17 w =>
    G (isB t12 false) (fun K => N (xv (xbin BinOp.leq 2 (Operand.tmp 13) (Operand.tmp 17) t13 t17)) w K) (fun t18 w =>
    N (xpick t12 (Value.bool true) t18) w fun t19 w =>
    M t19 fun t20 =>
    G (isB t20 false) (fun K => M (e 1) fun v => K v w) (fun t21 w =>
    G (isB t20 false) (fun K => N (xv (xbin BinOp.gtr 2 (Operand.tmp 21) (Operand.const (Value.int IntKind.i64 1099511627776)) t21 (Value.int IntKind.i64 1099511627776))) w K) (fun t22 w =>
    N (xpick t20 (Value.bool true) t22) w fun t23 w =>
    k (Env.p e 23 t23) w) w) w) w) w) w) w) w) w) := nr (by kernel_rfl)
theorem o36_2_eq : opsW N M G 64 V36 o36_2 k o36_2.toList [] e e w =
    (M (Value.slice none 0 0) fun t6 =>
    M (Value.bool false) fun t7 =>
    k (Env.p (Env.p e 6 t6) 7 t7) w) := nr (by kernel_rfl)
theorem c36_20_s (hw : Cur w) : W Try.prog 64 V36 c36_20 Q e w = (opsW (nx Try.prog) mv gdP 64 V36 o36_2 (fun e w => Q .ret e w) o36_2.toList [] e e w) := by rw [(by kernel_rfl : c36_20 = .seq (.region 2 o36_2 false) Code.ret), W_seq_reg]; simp only [W_ret, W_skip, W_exit, W_label]
theorem c36_19_v : opV V36 (.tmp 23) = true := by kernel_rfl
theorem c36_19_s (hw : Cur w) : W Try.prog 64 V36 c36_19 Q e w = (condP (ev e (.tmp 23)) (W Try.prog 64 V36 c36_20 Q e w) (Q .normal e w)) := by rw [(by kernel_rfl : c36_19 = .cond (.tmp 23) c36_20 Code.skip), W_cond, c36_19_v, cond_true]; simp only [W_ret, W_skip, W_exit, W_label]
theorem c36_18_s (hw : Cur w) : W Try.prog 64 V36 c36_18 Q e w = (opsW (nx Try.prog) mv gdP 64 V36 o36_1 (fun e w => W Try.prog 64 V36 c36_19 Q e w) o36_1.toList [] e e w) := by rw [(by kernel_rfl : c36_18 = .seq (.region 1 o36_1 false) c36_19), W_seq_reg]
theorem c36_1_s (hw : Cur w) : W Try.prog 64 V36 c36_1 Q e w = (W Try.prog 64 V36 c36_18 (seqQ (fun e w => W Try.prog 64 V36 c36_2 Q e w) Q) e w) := by rw [(by kernel_rfl : c36_1 = .seq c36_18 c36_2), W_seq]
theorem c36_s (hw : Cur w) : W Try.prog 64 V36 c36 Q e w = (opsW (nx Try.prog) mv gdP 64 V36 o36_0 (fun e w => W Try.prog 64 V36 c36_1 Q e w) o36_0.toList [] e e w) := by rw [(by kernel_rfl : c36 = .seq (.region 0 o36_0 false) c36_1), W_seq_reg]
theorem call36 {a0 a1 a2 : Value} {w : World} {R : Value → World → Prop} (h : W Try.prog 64 V36 c36 (retQ Try.prog [.tmp 6, .tmp 7] R) (argE [a0, a1, a2]) w) : CallsN Try.prog 36 [a0, a1, a2] w R :=
  callsN_of_W (c := c36) (rs := [.tmp 6, .tmp 7]) V36 Try.ntmps36 (by rw [Try.results36]) mixed Try.func36 (by kernel_rfl) (by kernel_rfl) (by kernel_rfl) (by kernel_rfl) (by simp) h
noncomputable def hk36 := And.intro (@o36_0_eq) <| And.intro (@o36_11_eq) <| And.intro (@o36_12_eq) <| And.intro (@c36_6_s) <| And.intro (@c36_5_s) <| And.intro (@o36_8_eq) <| And.intro (@o36_9_eq) <| And.intro (@o36_10_eq) <| And.intro (@c36_10_s) <| And.intro (@c36_9_s) <| And.intro (@c36_8_s) <| And.intro (@c36_7_s) <| And.intro (@c36_4_s) <| And.intro (@o36_6_eq) <| And.intro (@o36_7_eq) <| And.intro (@c36_13_s) <| And.intro (@c36_12_s) <| And.intro (@c36_11_s) <| And.intro (@c36_3_s) <| And.intro (@o36_3_eq) <| And.intro (@o36_4_eq) <| And.intro (@o36_5_eq) <| And.intro (@c36_17_s) <| And.intro (@c36_16_s) <| And.intro (@c36_15_s) <| And.intro (@c36_14_s) <| And.intro (@c36_2_s) <| And.intro (@o36_1_eq) <| And.intro (@o36_2_eq) <| And.intro (@c36_20_s) <| And.intro (@c36_19_s) <| And.intro (@c36_18_s) <| And.intro (@c36_1_s) <| @c36_s
-- K36: ↓hk36
/-! ### (*vouch/gap.Gap[int64]) . Waits -/
def V37 : Nat → Bool := fun i => [0, 2, 4].elem i
noncomputable def c37 : Code := (Try.f37.body.getD .skip)
noncomputable def o37_0 : Array Oper := rO (cL c37)
noncomputable def c37_1 : Code := (cR c37)
noncomputable def c37_2 : Code := (cR c37_1)
noncomputable def o37_3 : Array Oper := rO (cL c37_2)
noncomputable def c37_3 : Code := (cL c37_1)
noncomputable def o37_1 : Array Oper := rO (cL c37_3)
noncomputable def c37_4 : Code := (cR c37_3)
noncomputable def c37_5 : Code := (cL c37_4)
noncomputable def o37_2 : Array Oper := rO (cL c37_5)
theorem o37_0_eq : opsW N M G 11 V37 o37_0 k o37_0.toList [] e e w =
    (M (Value.slice none 0 0) fun t2 =>
    k (Env.p e 2 t2) w) := nr (by kernel_rfl)
theorem o37_3_eq : opsW N M G 11 V37 o37_3 k o37_3.toList [] e e w =
    (M (e 0) fun t5 =>
    N (xnil t5) w fun t6 w =>
    N (xv (Instr.fieldAt 139 t6 2)) w fun t7 w =>
    N (xv (Instr.loadAt 137 t7)) w fun t8 w =>
    N (xcall (Value.func (Fn.func 71) #[] #[]) [t8]) w fun t9 w =>
    N (xcall (Value.func (Fn.func 67) #[] #[]) [t9]) w fun t10 w =>
    M t10 fun t2 =>
    k (Env.p e 2 t2) w) := nr (by kernel_rfl)
theorem c37_2_s (hw : Cur w) : W Try.prog 11 V37 c37_2 Q e w = (opsW (nx Try.prog) mv gdP 11 V37 o37_3 (fun e w => Q .ret e w) o37_3.toList [] e e w) := by rw [(by kernel_rfl : c37_2 = .seq (.region 3 o37_3 false) Code.ret), W_seq_reg]; simp only [W_ret, W_skip, W_exit, W_label]
theorem o37_1_eq : opsW N M G 11 V37 o37_1 k o37_1.toList [] e e w =
    (M (e 0) fun t3 =>
    N (xv (xbin BinOp.eql 76 (Operand.tmp 3) (Operand.const (Value.pointer none)) t3 (Value.pointer none))) w fun t4 w =>
    k (Env.p e 4 t4) w) := nr (by kernel_rfl)
theorem o37_2_eq : opsW N M G 11 V37 o37_2 k o37_2.toList [] e e w =
    (M (Value.slice none 0 0) fun t2 =>
    k (Env.p e 2 t2) w) := nr (by kernel_rfl)
theorem c37_5_s (hw : Cur w) : W Try.prog 11 V37 c37_5 Q e w = (opsW (nx Try.prog) mv gdP 11 V37 o37_2 (fun e w => Q .ret e w) o37_2.toList [] e e w) := by rw [(by kernel_rfl : c37_5 = .seq (.region 2 o37_2 false) Code.ret), W_seq_reg]; simp only [W_ret, W_skip, W_exit, W_label]
theorem c37_4_v : opV V37 (.tmp 4) = true := by kernel_rfl
theorem c37_4_s (hw : Cur w) : W Try.prog 11 V37 c37_4 Q e w = (condP (ev e (.tmp 4)) (W Try.prog 11 V37 c37_5 Q e w) (Q .normal e w)) := by rw [(by kernel_rfl : c37_4 = .cond (.tmp 4) c37_5 Code.skip), W_cond, c37_4_v, cond_true]; simp only [W_ret, W_skip, W_exit, W_label]
theorem c37_3_s (hw : Cur w) : W Try.prog 11 V37 c37_3 Q e w = (opsW (nx Try.prog) mv gdP 11 V37 o37_1 (fun e w => W Try.prog 11 V37 c37_4 Q e w) o37_1.toList [] e e w) := by rw [(by kernel_rfl : c37_3 = .seq (.region 1 o37_1 false) c37_4), W_seq_reg]
theorem c37_1_s (hw : Cur w) : W Try.prog 11 V37 c37_1 Q e w = (W Try.prog 11 V37 c37_3 (seqQ (fun e w => W Try.prog 11 V37 c37_2 Q e w) Q) e w) := by rw [(by kernel_rfl : c37_1 = .seq c37_3 c37_2), W_seq]
theorem c37_s (hw : Cur w) : W Try.prog 11 V37 c37 Q e w = (opsW (nx Try.prog) mv gdP 11 V37 o37_0 (fun e w => W Try.prog 11 V37 c37_1 Q e w) o37_0.toList [] e e w) := by rw [(by kernel_rfl : c37 = .seq (.region 0 o37_0 false) c37_1), W_seq_reg]
theorem call37 {a0 : Value} {w : World} {R : Value → World → Prop} (h : W Try.prog 11 V37 c37 (retQ Try.prog [.tmp 2] R) (argE [a0]) w) : CallsN Try.prog 37 [a0] w R :=
  callsN_of_W (c := c37) (rs := [.tmp 2]) V37 Try.ntmps37 (by rw [Try.results37]) mixed Try.func37 (by kernel_rfl) (by kernel_rfl) (by kernel_rfl) (by kernel_rfl) (by simp) h
noncomputable def hk37 := And.intro (@o37_0_eq) <| And.intro (@o37_3_eq) <| And.intro (@c37_2_s) <| And.intro (@o37_1_eq) <| And.intro (@o37_2_eq) <| And.intro (@c37_5_s) <| And.intro (@c37_4_s) <| And.intro (@c37_3_s) <| And.intro (@c37_1_s) <| @c37_s
-- K37: ↓hk37
/-! ### (*vouch/gap.Gap[int64]) . Clear -/
def V69 : Nat → Bool := fun i => [0, 1, 5].elem i
noncomputable def c69 : Code := (Try.f69.body.getD .skip)
noncomputable def o69_0 : Array Oper := rO (cL c69)
noncomputable def c69_1 : Code := (cR c69)
noncomputable def c69_2 : Code := (cL c69_1)
noncomputable def o69_1 : Array Oper := rO c69_2
theorem o69_0_eq : opsW N M G 16 V69 o69_0 k o69_0.toList [] e e w =
    (M (e 0) fun t4 =>
    N (xv (xbin BinOp.neq 76 (Operand.tmp 4) (Operand.const (Value.pointer none)) t4 (Value.pointer none))) w fun t5 w =>
    k (Env.p e 5 t5) w) := nr (by kernel_rfl)
theorem o69_1_eq : opsW N M G 16 V69 o69_1 k o69_1.toList [] e e w =
    (M (e 0) fun t6 =>
    M (e 0) fun t7 =>
    M (e 1) fun t8 =>
    N (builtin Builtin.max #[2, 2] 2 ([false, true]).toArray ([t8, (Value.int IntKind.i64 0)]).toArray) w fun t9 w =>
    N (builtin Builtin.min #[2, 2] 2 ([false, true]).toArray ([t9, (Value.int IntKind.i64 1099511627776)]).toArray) w fun t10 w =>
    N (xv (Instr.makeMap 137 none)) w fun t11 w =>
    N (xnil t6) w fun t12 w =>
    N (xv (Instr.fieldAt 139 t12 0)) w fun t13 w =>
    N (xu (Instr.storeAt 2 t13 t10)) w fun _ w =>
    N (xnil t7) w fun t14 w =>
    N (xv (Instr.fieldAt 139 t14 2)) w fun t15 w =>
    N (xu (Instr.storeAt 137 t15 t11)) w fun _ w =>
    k e w) := nr (by kernel_rfl)
theorem c69_2_s (hw : Cur w) : W Try.prog 16 V69 c69_2 Q e w = (opsW (nx Try.prog) mv gdP 16 V69 o69_1 (fun e w => Q .normal e w) o69_1.toList [] e e w) := by rw [(by kernel_rfl : c69_2 = (.region 1 o69_1 false)), W_reg]
theorem c69_1_v : opV V69 (.tmp 5) = true := by kernel_rfl
theorem c69_1_s (hw : Cur w) : W Try.prog 16 V69 c69_1 Q e w = (condP (ev e (.tmp 5)) (W Try.prog 16 V69 c69_2 Q e w) (Q .normal e w)) := by rw [(by kernel_rfl : c69_1 = .cond (.tmp 5) c69_2 Code.skip), W_cond, c69_1_v, cond_true]; simp only [W_ret, W_skip, W_exit, W_label]
theorem c69_s (hw : Cur w) : W Try.prog 16 V69 c69 Q e w = (opsW (nx Try.prog) mv gdP 16 V69 o69_0 (fun e w => W Try.prog 16 V69 c69_1 Q e w) o69_0.toList [] e e w) := by rw [(by kernel_rfl : c69 = .seq (.region 0 o69_0 false) c69_1), W_seq_reg]
theorem call69 {a0 a1 : Value} {w : World} {R : Value → World → Prop} (h : W Try.prog 16 V69 c69 (retQ Try.prog [] R) (argE [a0, a1]) w) : CallsN Try.prog 69 [a0, a1] w R :=
  callsN_of_W (c := c69) (rs := []) V69 Try.ntmps69 (by rw [Try.results69]) mixed Try.func69 (by kernel_rfl) (by kernel_rfl) (by kernel_rfl) (by kernel_rfl) (by simp) h
noncomputable def hk69 := And.intro (@o69_0_eq) <| And.intro (@o69_1_eq) <| And.intro (@c69_2_s) <| And.intro (@c69_1_s) <| @c69_s
-- K69: ↓hk69
/-! ### (*vouch/gap.Gap[int64]) . out -/
def V70 : Nat → Bool := fun i => [0, 1, 4, 5, 6, 7, 31].elem i
noncomputable def c70 : Code := (Try.f70.body.getD .skip)
noncomputable def o70_0 : Array Oper := rO (cL c70)
noncomputable def c70_1 : Code := (cR c70)
noncomputable def o70_1 : Array Oper := rO (cL c70_1)
noncomputable def c70_2 : Code := (cR c70_1)
noncomputable def o70_2 : Array Oper := rO (cL c70_2)
noncomputable def c70_3 : Code := (cR c70_2)
noncomputable def c70_4 : Code := (cL c70_3)
noncomputable def c70_5 : Code := (cL c70_4)
noncomputable def c70_6 : Code := (cL c70_5)
noncomputable def o70_3 : Array Oper := rO (cL c70_6)
noncomputable def c70_7 : Code := (cR c70_6)
noncomputable def c70_8 : Code := (cR c70_7)
noncomputable def o70_6 : Array Oper := rO (cL c70_8)
noncomputable def c70_9 : Code := (cR c70_8)
noncomputable def o70_7 : Array Oper := rO (cL c70_9)
noncomputable def c70_10 : Code := (cR c70_9)
noncomputable def o70_8 : Array Oper := rO c70_10
noncomputable def c70_11 : Code := (cL c70_7)
noncomputable def o70_4 : Array Oper := rO (cL c70_11)
noncomputable def c70_12 : Code := (cR c70_11)
noncomputable def c70_13 : Code := (cL c70_12)
noncomputable def o70_5 : Array Oper := rO (cL c70_13)
theorem o70_0_eq : opsW N M G 52 V70 o70_0 k o70_0.toList [] e e w =
    (M (Value.slice none 0 0) fun t4 =>
    k (Env.p e 4 t4) w) := nr (by kernel_rfl)
theorem o70_1_eq : opsW N M G 52 V70 o70_1 k o70_1.toList [] e e w =
    (M (e 1) fun t8 =>
    N (xv (Instr.buildSlice 71 1 ([(0, t8)]).toArray)) w fun t9 w =>
    M t9 fun t5 =>
    k (Env.p e 5 t5) w) := nr (by kernel_rfl)
theorem o70_2_eq : opsW N M G 52 V70 o70_2 k o70_2.toList [] e e w =
    (M (e 0) fun t10 =>
    N (xnil t10) w fun t11 w =>
    N (xv (Instr.fieldAt 139 t11 0)) w fun t12 w =>
    N (xv (Instr.loadAt 2 t12)) w fun t13 w =>
    N (xv (xbin BinOp.add 2 (Operand.tmp 13) (Operand.const (Value.int IntKind.i64 1)) t13 (Value.int IntKind.i64 1))) w fun t14 w =>
    N (xnil t10) w fun t15 w =>
    N (xv (Instr.fieldAt 139 t15 0)) w fun t16 w =>
    N (xu (Instr.storeAt 2 t16 t14)) w fun _ w =>
    k e w) := nr (by kernel_rfl)
theorem o70_3_eq : drawGo N T M G H 52 V70 o70_3 S k o70_3.size true (Array.replicate o70_3.size false) [] e e w =
    (M (e 0) fun t18 =>
    T (xnil t18) fun t19 =>
    T (xv (Instr.fieldAt 139 t19 2)) fun t20 =>
    T (xv (Instr.loadAt 137 t20)) fun t21 =>
    M (e 0) fun t22 =>
    T (xnil t22) fun t23 =>
    T (xv (Instr.fieldAt 139 t23 0)) fun t24 =>
    T (xv (Instr.loadAt 2 t24)) fun t25 =>
    T (xv (xbin BinOp.add 2 (Operand.tmp 25) (Operand.const (Value.int IntKind.i64 1)) t25 (Value.int IntKind.i64 1))) fun t26 =>
    T (xv (Instr.lookup 137 t21 t26 true)) fun t27 =>
    M t27 fun t17 =>
    T (xv (Instr.extract t17 0)) fun t28 =>
    T (xv (Instr.extract t17 1)) fun t29 =>
    M t28 fun t6 =>
    M t29 fun t7 =>
    k (Env.p (Env.p e 6 t6) 7 t7) w) := nr (by kernel_rfl)
theorem o70_6_eq : opsW N M G 52 V70 o70_6 k o70_6.toList [] e e w =
    (M (e 5) fun t33 =>
    M (e 6) fun t34 =>
    N (xv (Instr.buildSlice 71 1 ([(0, t34)]).toArray)) w fun t35 w =>
    N (builtin Builtin.append #[71, 71] 71 ([false, false]).toArray ([t33, t35]).toArray) w fun t36 w =>
    M t36 fun t5 =>
    k (Env.p e 5 t5) w) := nr (by kernel_rfl)
theorem o70_7_eq : opsW N M G 52 V70 o70_7 k o70_7.toList [] e e w =
    (M (e 0) fun t37 =>
    N (xnil t37) w fun t38 w =>
    N (xv (Instr.fieldAt 139 t38 0)) w fun t39 w =>
    N (xv (Instr.loadAt 2 t39)) w fun t40 w =>
    N (xv (xbin BinOp.add 2 (Operand.tmp 40) (Operand.const (Value.int IntKind.i64 1)) t40 (Value.int IntKind.i64 1))) w fun t41 w =>
    N (xnil t37) w fun t42 w =>
    N (xv (Instr.fieldAt 139 t42 0)) w fun t43 w =>
    N (xu (Instr.storeAt 2 t43 t41)) w fun _ w =>
    k e w) := nr (by kernel_rfl)
theorem o70_8_eq : drawGo N T M G H 52 V70 o70_8 S k o70_8.size true (Array.replicate o70_8.size false) [] e e w =
    (M (e 0) fun t44 =>
    T (xnil t44) fun t45 =>
    T (xv (Instr.fieldAt 139 t45 2)) fun t46 =>
    T (xv (Instr.loadAt 137 t46)) fun t47 =>
    M (e 0) fun t48 =>
    T (xnil t48) fun t49 =>
    T (xv (Instr.fieldAt 139 t49 0)) fun t50 =>
    T (xv (Instr.loadAt 2 t50)) fun t51 =>
    N (builtin Builtin.delete #[137, 2] 0 ([false, false]).toArray ([t47, t51]).toArray) w fun _ w =>
    S w ∧ (k e w)) := nr (by kernel_rfl)
theorem c70_10_s (hw : Cur w) : W Try.prog 52 V70 c70_10 Q e w = (∃ S : World → Prop, S w.drew ∧ drawGo (nx Try.prog) (takeP Try.prog S) mv gdP gdT 52 V70 o70_8 S (fun e w => Q .normal e w) o70_8.size true (Array.replicate o70_8.size false) [] e e w.drew) := by rw [(by kernel_rfl : c70_10 = (.region 8 o70_8 true)), W_regD']
theorem c70_9_s (hw : Cur w) : W Try.prog 52 V70 c70_9 Q e w = (opsW (nx Try.prog) mv gdP 52 V70 o70_7 (fun e w => W Try.prog 52 V70 c70_10 Q e w) o70_7.toList [] e e w) := by rw [(by kernel_rfl : c70_9 = .seq (.region 7 o70_7 false) c70_10), W_seq_reg]
theorem c70_8_s (hw : Cur w) : W Try.prog 52 V70 c70_8 Q e w = (opsW (nx Try.prog) mv gdP 52 V70 o70_6 (fun e w => W Try.prog 52 V70 c70_9 Q e w) o70_6.toList [] e e w) := by rw [(by kernel_rfl : c70_8 = .seq (.region 6 o70_6 false) c70_9), W_seq_reg]
theorem o70_4_eq : opsW N M G 52 V70 o70_4 k o70_4.toList [] e e w =
    (M (e 7) fun t30 =>
    N (xv (Op.unary UnOp.not t30)) w fun t31 w =>
    k (Env.p e 31 t31) w) := nr (by kernel_rfl)
theorem o70_5_eq : opsW N M G 52 V70 o70_5 k o70_5.toList [] e e w =
    (M (e 5) fun t32 =>
    M t32 fun t4 =>
    k (Env.p e 4 t4) w) := nr (by kernel_rfl)
theorem c70_13_s (hw : Cur w) : W Try.prog 52 V70 c70_13 Q e w = (opsW (nx Try.prog) mv gdP 52 V70 o70_5 (fun e w => Q .ret e w) o70_5.toList [] e e w) := by rw [(by kernel_rfl : c70_13 = .seq (.region 5 o70_5 false) Code.ret), W_seq_reg]; simp only [W_ret, W_skip, W_exit, W_label]
theorem c70_12_v : opV V70 (.tmp 31) = true := by kernel_rfl
theorem c70_12_s (hw : Cur w) : W Try.prog 52 V70 c70_12 Q e w = (condP (ev e (.tmp 31)) (W Try.prog 52 V70 c70_13 Q e w) (Q .normal e w)) := by rw [(by kernel_rfl : c70_12 = .cond (.tmp 31) c70_13 Code.skip), W_cond, c70_12_v, cond_true]; simp only [W_ret, W_skip, W_exit, W_label]
theorem c70_11_s (hw : Cur w) : W Try.prog 52 V70 c70_11 Q e w = (opsW (nx Try.prog) mv gdP 52 V70 o70_4 (fun e w => W Try.prog 52 V70 c70_12 Q e w) o70_4.toList [] e e w) := by rw [(by kernel_rfl : c70_11 = .seq (.region 4 o70_4 false) c70_12), W_seq_reg]
theorem c70_7_s (hw : Cur w) : W Try.prog 52 V70 c70_7 Q e w = (W Try.prog 52 V70 c70_11 (seqQ (fun e w => W Try.prog 52 V70 c70_8 Q e w) Q) e w) := by rw [(by kernel_rfl : c70_7 = .seq c70_11 c70_8), W_seq]
theorem c70_6_s (hw : Cur w) : W Try.prog 52 V70 c70_6 Q e w = (∃ S : World → Prop, S w.drew ∧ drawGo (nx Try.prog) (takeP Try.prog S) mv gdP gdT 52 V70 o70_3 S (fun e w => W Try.prog 52 V70 c70_7 Q e w) o70_3.size true (Array.replicate o70_3.size false) [] e e w.drew) := by rw [(by kernel_rfl : c70_6 = .seq (.region 3 o70_3 true) c70_7), W_seq_regD]
theorem c70_5_s (hw : Cur w) : W Try.prog 52 V70 c70_5 Q e w = (W Try.prog 52 V70 c70_6 (blockQ 1 Q) e w) := by rw [(by kernel_rfl : c70_5 = .block 1 c70_6), W_block]
theorem c70_4_s (hw : Cur w) : W Try.prog 52 V70 c70_4 Q e w = (LoopP (fun e w k => W Try.prog 52 V70 c70_5 (seqQ k Q) e w) e w) := by rw [(by kernel_rfl : c70_4 = .loop c70_5), W_loop]
theorem c70_3_s (hw : Cur w) : W Try.prog 52 V70 c70_3 Q e w = (W Try.prog 52 V70 c70_4 (blockQ 0 Q) e w) := by rw [(by kernel_rfl : c70_3 = .block 0 c70_4), W_block]
theorem c70_2_s (hw : Cur w) : W Try.prog 52 V70 c70_2 Q e w = (opsW (nx Try.prog) mv gdP 52 V70 o70_2 (fun e w => W Try.prog 52 V70 c70_3 Q e w) o70_2.toList [] e e w) := by rw [(by kernel_rfl : c70_2 = .seq (.region 2 o70_2 false) c70_3), W_seq_reg]
theorem c70_1_s (hw : Cur w) : W Try.prog 52 V70 c70_1 Q e w = (opsW (nx Try.prog) mv gdP 52 V70 o70_1 (fun e w => W Try.prog 52 V70 c70_2 Q e w) o70_1.toList [] e e w) := by rw [(by kernel_rfl : c70_1 = .seq (.region 1 o70_1 false) c70_2), W_seq_reg]
theorem c70_s (hw : Cur w) : W Try.prog 52 V70 c70 Q e w = (opsW (nx Try.prog) mv gdP 52 V70 o70_0 (fun e w => W Try.prog 52 V70 c70_1 Q e w) o70_0.toList [] e e w) := by rw [(by kernel_rfl : c70 = .seq (.region 0 o70_0 false) c70_1), W_seq_reg]
theorem call70 {a0 a1 : Value} {w : World} {R : Value → World → Prop} (h : W Try.prog 52 V70 c70 (retQ Try.prog [.tmp 4] R) (argE [a0, a1]) w) : CallsN Try.prog 70 [a0, a1] w R :=
  callsN_of_W (c := c70) (rs := [.tmp 4]) V70 Try.ntmps70 (by rw [Try.results70]) mixed Try.func70 (by kernel_rfl) (by kernel_rfl) (by kernel_rfl) (by kernel_rfl) (by simp) h
noncomputable def hk70 := And.intro (@o70_0_eq) <| And.intro (@o70_1_eq) <| And.intro (@o70_2_eq) <| And.intro (@o70_3_eq) <| And.intro (@o70_6_eq) <| And.intro (@o70_7_eq) <| And.intro (@o70_8_eq) <| And.intro (@c70_10_s) <| And.intro (@c70_9_s) <| And.intro (@c70_8_s) <| And.intro (@o70_4_eq) <| And.intro (@o70_5_eq) <| And.intro (@c70_13_s) <| And.intro (@c70_12_s) <| And.intro (@c70_11_s) <| And.intro (@c70_7_s) <| And.intro (@c70_6_s) <| And.intro (@c70_5_s) <| And.intro (@c70_4_s) <| And.intro (@c70_3_s) <| And.intro (@c70_2_s) <| And.intro (@c70_1_s) <| @c70_s
-- K70: ↓hk70
/-! ### (*vouch/gap.Gap[int]) . Clone -/
def V45 : Nat → Bool := fun i => [0, 2, 4].elem i
noncomputable def c45 : Code := (Try.f45.body.getD .skip)
noncomputable def o45_0 : Array Oper := rO (cL c45)
noncomputable def c45_1 : Code := (cR c45)
noncomputable def c45_2 : Code := (cR c45_1)
noncomputable def o45_3 : Array Oper := rO (cL c45_2)
noncomputable def c45_3 : Code := (cL c45_1)
noncomputable def o45_1 : Array Oper := rO (cL c45_3)
noncomputable def c45_4 : Code := (cR c45_3)
noncomputable def c45_5 : Code := (cL c45_4)
noncomputable def o45_2 : Array Oper := rO (cL c45_5)
theorem o45_0_eq : opsW N M G 20 V45 o45_0 k o45_0.toList [] e e w =
    (M (Value.pointer none) fun t2 =>
    k (Env.p e 2 t2) w) := nr (by kernel_rfl)
theorem o45_3_eq : drawGo N T M G H 20 V45 o45_3 S k o45_3.size true (Array.replicate o45_3.size false) [] e e w =
    (M (e 0) fun t5 =>
    T (xnil t5) fun t6 =>
    T (xv (Instr.fieldAt 130 t6 0)) fun t7 =>
    T (xv (Instr.loadAt 2 t7)) fun t8 =>
    M (e 0) fun t9 =>
    T (xnil t9) fun t10 =>
    T (xv (Instr.fieldAt 130 t10 1)) fun t11 =>
    T (xv (Instr.loadAt 3 t11)) fun t12 =>
    M (e 0) fun t13 =>
    T (xnil t13) fun t14 =>
    T (xv (Instr.fieldAt 130 t14 2)) fun t15 =>
    T (xv (Instr.loadAt 128 t15)) fun t16 =>
    N (xcall (Value.func (Fn.func 75) #[] #[]) [t16]) w fun t17 w =>
    S w ∧ (T (xv (Instr.build 130 ([(0, t8), (1, t12), (2, t17)]).toArray)) fun t18 =>
    N (xv (Instr.box 130 t18)) w fun t19 w =>
    S w ∧ (M t19 fun t2 =>
    k (Env.p e 2 t2) w))) := nr (by kernel_rfl)
theorem c45_2_s (hw : Cur w) : W Try.prog 20 V45 c45_2 Q e w = (∃ S : World → Prop, S w.drew ∧ drawGo (nx Try.prog) (takeP Try.prog S) mv gdP gdT 20 V45 o45_3 S (fun e w => Q .ret e w) o45_3.size true (Array.replicate o45_3.size false) [] e e w.drew) := by rw [(by kernel_rfl : c45_2 = .seq (.region 3 o45_3 true) Code.ret), W_seq_regD]; simp only [W_ret, W_skip, W_exit, W_label]
theorem o45_1_eq : opsW N M G 20 V45 o45_1 k o45_1.toList [] e e w =
    (M (e 0) fun t3 =>
    N (xv (xbin BinOp.eql 65 (Operand.tmp 3) (Operand.const (Value.pointer none)) t3 (Value.pointer none))) w fun t4 w =>
    k (Env.p e 4 t4) w) := nr (by kernel_rfl)
theorem o45_2_eq : opsW N M G 20 V45 o45_2 k o45_2.toList [] e e w =
    (M (Value.pointer none) fun t2 =>
    k (Env.p e 2 t2) w) := nr (by kernel_rfl)
theorem c45_5_s (hw : Cur w) : W Try.prog 20 V45 c45_5 Q e w = (opsW (nx Try.prog) mv gdP 20 V45 o45_2 (fun e w => Q .ret e w) o45_2.toList [] e e w) := by rw [(by kernel_rfl : c45_5 = .seq (.region 2 o45_2 false) Code.ret), W_seq_reg]; simp only [W_ret, W_skip, W_exit, W_label]
theorem c45_4_v : opV V45 (.tmp 4) = true := by kernel_rfl
theorem c45_4_s (hw : Cur w) : W Try.prog 20 V45 c45_4 Q e w = (condP (ev e (.tmp 4)) (W Try.prog 20 V45 c45_5 Q e w) (Q .normal e w)) := by rw [(by kernel_rfl : c45_4 = .cond (.tmp 4) c45_5 Code.skip), W_cond, c45_4_v, cond_true]; simp only [W_ret, W_skip, W_exit, W_label]
theorem c45_3_s (hw : Cur w) : W Try.prog 20 V45 c45_3 Q e w = (opsW (nx Try.prog) mv gdP 20 V45 o45_1 (fun e w => W Try.prog 20 V45 c45_4 Q e w) o45_1.toList [] e e w) := by rw [(by kernel_rfl : c45_3 = .seq (.region 1 o45_1 false) c45_4), W_seq_reg]
theorem c45_1_s (hw : Cur w) : W Try.prog 20 V45 c45_1 Q e w = (W Try.prog 20 V45 c45_3 (seqQ (fun e w => W Try.prog 20 V45 c45_2 Q e w) Q) e w) := by rw [(by kernel_rfl : c45_1 = .seq c45_3 c45_2), W_seq]
theorem c45_s (hw : Cur w) : W Try.prog 20 V45 c45 Q e w = (opsW (nx Try.prog) mv gdP 20 V45 o45_0 (fun e w => W Try.prog 20 V45 c45_1 Q e w) o45_0.toList [] e e w) := by rw [(by kernel_rfl : c45 = .seq (.region 0 o45_0 false) c45_1), W_seq_reg]
theorem call45 {a0 : Value} {w : World} {R : Value → World → Prop} (h : W Try.prog 20 V45 c45 (retQ Try.prog [.tmp 2] R) (argE [a0]) w) : CallsN Try.prog 45 [a0] w R :=
  callsN_of_W (c := c45) (rs := [.tmp 2]) V45 Try.ntmps45 (by rw [Try.results45]) mixed Try.func45 (by kernel_rfl) (by kernel_rfl) (by kernel_rfl) (by kernel_rfl) (by simp) h
noncomputable def hk45 := And.intro (@o45_0_eq) <| And.intro (@o45_3_eq) <| And.intro (@c45_2_s) <| And.intro (@o45_1_eq) <| And.intro (@o45_2_eq) <| And.intro (@c45_5_s) <| And.intro (@c45_4_s) <| And.intro (@c45_3_s) <| And.intro (@c45_1_s) <| @c45_s
-- K45: ↓hk45
/-! ### (*vouch/gap.Gap[vouch/api.Record]) . Clone -/
def V38 : Nat → Bool := fun i => [0, 2, 4].elem i
noncomputable def c38 : Code := (Try.f38.body.getD .skip)
noncomputable def o38_0 : Array Oper := rO (cL c38)
noncomputable def c38_1 : Code := (cR c38)
noncomputable def c38_2 : Code := (cR c38_1)
noncomputable def o38_3 : Array Oper := rO (cL c38_2)
noncomputable def c38_3 : Code := (cL c38_1)
noncomputable def o38_1 : Array Oper := rO (cL c38_3)
noncomputable def c38_4 : Code := (cR c38_3)
noncomputable def c38_5 : Code := (cL c38_4)
noncomputable def o38_2 : Array Oper := rO (cL c38_5)
theorem o38_0_eq : opsW N M G 20 V38 o38_0 k o38_0.toList [] e e w =
    (M (Value.pointer none) fun t2 =>
    k (Env.p e 2 t2) w) := nr (by kernel_rfl)
theorem o38_3_eq : drawGo N T M G H 20 V38 o38_3 S k o38_3.size true (Array.replicate o38_3.size false) [] e e w =
    (M (e 0) fun t5 =>
    T (xnil t5) fun t6 =>
    T (xv (Instr.fieldAt 125 t6 0)) fun t7 =>
    T (xv (Instr.loadAt 2 t7)) fun t8 =>
    M (e 0) fun t9 =>
    T (xnil t9) fun t10 =>
    T (xv (Instr.fieldAt 125 t10 1)) fun t11 =>
    T (xv (Instr.loadAt 3 t11)) fun t12 =>
    M (e 0) fun t13 =>
    T (xnil t13) fun t14 =>
    T (xv (Instr.fieldAt 125 t14 2)) fun t15 =>
    T (xv (Instr.loadAt 123 t15)) fun t16 =>
    N (xcall (Value.func (Fn.func 72) #[] #[]) [t16]) w fun t17 w =>
    S w ∧ (T (xv (Instr.build 125 ([(0, t8), (1, t12), (2, t17)]).toArray)) fun t18 =>
    N (xv (Instr.box 125 t18)) w fun t19 w =>
    S w ∧ (M t19 fun t2 =>
    k (Env.p e 2 t2) w))) := nr (by kernel_rfl)
theorem c38_2_s (hw : Cur w) : W Try.prog 20 V38 c38_2 Q e w = (∃ S : World → Prop, S w.drew ∧ drawGo (nx Try.prog) (takeP Try.prog S) mv gdP gdT 20 V38 o38_3 S (fun e w => Q .ret e w) o38_3.size true (Array.replicate o38_3.size false) [] e e w.drew) := by rw [(by kernel_rfl : c38_2 = .seq (.region 3 o38_3 true) Code.ret), W_seq_regD]; simp only [W_ret, W_skip, W_exit, W_label]
theorem o38_1_eq : opsW N M G 20 V38 o38_1 k o38_1.toList [] e e w =
    (M (e 0) fun t3 =>
    N (xv (xbin BinOp.eql 50 (Operand.tmp 3) (Operand.const (Value.pointer none)) t3 (Value.pointer none))) w fun t4 w =>
    k (Env.p e 4 t4) w) := nr (by kernel_rfl)
theorem o38_2_eq : opsW N M G 20 V38 o38_2 k o38_2.toList [] e e w =
    (M (Value.pointer none) fun t2 =>
    k (Env.p e 2 t2) w) := nr (by kernel_rfl)
theorem c38_5_s (hw : Cur w) : W Try.prog 20 V38 c38_5 Q e w = (opsW (nx Try.prog) mv gdP 20 V38 o38_2 (fun e w => Q .ret e w) o38_2.toList [] e e w) := by rw [(by kernel_rfl : c38_5 = .seq (.region 2 o38_2 false) Code.ret), W_seq_reg]; simp only [W_ret, W_skip, W_exit, W_label]
theorem c38_4_v : opV V38 (.tmp 4) = true := by kernel_rfl
theorem c38_4_s (hw : Cur w) : W Try.prog 20 V38 c38_4 Q e w = (condP (ev e (.tmp 4)) (W Try.prog 20 V38 c38_5 Q e w) (Q .normal e w)) := by rw [(by kernel_rfl : c38_4 = .cond (.tmp 4) c38_5 Code.skip), W_cond, c38_4_v, cond_true]; simp only [W_ret, W_skip, W_exit, W_label]
theorem c38_3_s (hw : Cur w) : W Try.prog 20 V38 c38_3 Q e w = (opsW (nx Try.prog) mv gdP 20 V38 o38_1 (fun e w => W Try.prog 20 V38 c38_4 Q e w) o38_1.toList [] e e w) := by rw [(by kernel_rfl : c38_3 = .seq (.region 1 o38_1 false) c38_4), W_seq_reg]
theorem c38_1_s (hw : Cur w) : W Try.prog 20 V38 c38_1 Q e w = (W Try.prog 20 V38 c38_3 (seqQ (fun e w => W Try.prog 20 V38 c38_2 Q e w) Q) e w) := by rw [(by kernel_rfl : c38_1 = .seq c38_3 c38_2), W_seq]
theorem c38_s (hw : Cur w) : W Try.prog 20 V38 c38 Q e w = (opsW (nx Try.prog) mv gdP 20 V38 o38_0 (fun e w => W Try.prog 20 V38 c38_1 Q e w) o38_0.toList [] e e w) := by rw [(by kernel_rfl : c38 = .seq (.region 0 o38_0 false) c38_1), W_seq_reg]
theorem call38 {a0 : Value} {w : World} {R : Value → World → Prop} (h : W Try.prog 20 V38 c38 (retQ Try.prog [.tmp 2] R) (argE [a0]) w) : CallsN Try.prog 38 [a0] w R :=
  callsN_of_W (c := c38) (rs := [.tmp 2]) V38 Try.ntmps38 (by rw [Try.results38]) mixed Try.func38 (by kernel_rfl) (by kernel_rfl) (by kernel_rfl) (by kernel_rfl) (by simp) h
noncomputable def hk38 := And.intro (@o38_0_eq) <| And.intro (@o38_3_eq) <| And.intro (@c38_2_s) <| And.intro (@o38_1_eq) <| And.intro (@o38_2_eq) <| And.intro (@c38_5_s) <| And.intro (@c38_4_s) <| And.intro (@c38_3_s) <| And.intro (@c38_1_s) <| @c38_s
-- K38: ↓hk38
end
end Go.Proofs.Ytenokheiindfkaa
