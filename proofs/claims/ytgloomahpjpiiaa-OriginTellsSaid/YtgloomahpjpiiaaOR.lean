/- The equations of the code of some functions, written by the printer gen.py: each is checked by the kernel. -/
import Derived.Test.YtgloomahpjpiiaaQ0
set_option linter.unusedVariables false
set_option linter.unusedSimpArgs false
set_option maxRecDepth 100000
namespace Go.Proofs.Ytgloomahpjpiiaa
open Go.VW
noncomputable section
set_option linter.defProp false
variable {N : Sem Next → World → (Value → World → Prop) → Prop} {T : Sem Next → (Value → Prop) → Prop} {M : Value → (Value → Prop) → Prop} {G : Bool → ((Value → World → Prop) → Prop) → (Value → World → Prop) → World → Prop}
  {H : Bool → ((Value → Prop) → Prop) → (Value → Prop) → Prop} {S : World → Prop} {k : Env → World → Prop} {Q : Exit → Env → World → Prop} {e : Env} {w : World}
  {T2 : Nat → Sem Next → (Value → Prop) → Prop} {S2 : Nat → World → Prop}
/-! ### (*vouch/store.Store) . Commit -/
def V37 : Nat → Bool := fun i => [0, 1, 4, 5, 6, 8, 9, 10, 12, 16, 22, 30, 31, 32, 33, 61].elem i
noncomputable def c37 : Code := (Try.f37.body.getD .skip)
noncomputable def o37_0 : Array Oper := rO (cL c37)
noncomputable def c37_1 : Code := (cR c37)
noncomputable def c37_2 : Code := (cR c37_1)
noncomputable def c37_3 : Code := (cR c37_2)
noncomputable def c37_4 : Code := (cR c37_3)
noncomputable def o37_8 : Array Oper := rO (cL c37_4)
noncomputable def c37_5 : Code := (cR c37_4)
noncomputable def c37_6 : Code := (cR c37_5)
noncomputable def o37_18 : Array Oper := rO (cL c37_6)
noncomputable def c37_7 : Code := (cL c37_5)
noncomputable def o37_9 : Array Oper := rO (cL c37_7)
noncomputable def c37_8 : Code := (cR c37_7)
noncomputable def c37_9 : Code := (cL c37_8)
noncomputable def c37_10 : Code := (cL c37_9)
noncomputable def o37_10 : Array Oper := rO (cL c37_10)
noncomputable def c37_11 : Code := (cR c37_10)
noncomputable def c37_12 : Code := (cR c37_11)
noncomputable def c37_13 : Code := (cR c37_12)
noncomputable def o37_17 : Array Oper := rO c37_13
noncomputable def c37_14 : Code := (cL c37_12)
noncomputable def c37_15 : Code := (cL c37_14)
noncomputable def o37_11 : Array Oper := rO (cL c37_15)
noncomputable def c37_16 : Code := (cR c37_15)
noncomputable def o37_12 : Array Oper := rO (cL c37_16)
noncomputable def c37_17 : Code := (cR c37_16)
noncomputable def o37_13 : Array Oper := rO (cL c37_17)
noncomputable def c37_18 : Code := (cR c37_17)
noncomputable def c37_19 : Code := (cR c37_18)
noncomputable def o37_16 : Array Oper := rO c37_19
noncomputable def c37_20 : Code := (cL c37_18)
noncomputable def o37_14 : Array Oper := rO (cL c37_20)
noncomputable def c37_21 : Code := (cR c37_20)
noncomputable def c37_22 : Code := (cL c37_21)
noncomputable def o37_15 : Array Oper := rO c37_22
noncomputable def c37_23 : Code := (cL c37_11)
noncomputable def c37_24 : Code := (cL c37_3)
noncomputable def o37_6 : Array Oper := rO (cL c37_24)
noncomputable def c37_25 : Code := (cR c37_24)
noncomputable def c37_26 : Code := (cL c37_25)
noncomputable def o37_7 : Array Oper := rO (cL c37_26)
noncomputable def c37_27 : Code := (cL c37_2)
noncomputable def o37_3 : Array Oper := rO (cL c37_27)
noncomputable def c37_28 : Code := (cR c37_27)
noncomputable def o37_4 : Array Oper := rO (cL c37_28)
noncomputable def c37_29 : Code := (cR c37_28)
noncomputable def c37_30 : Code := (cL c37_29)
noncomputable def o37_5 : Array Oper := rO (cL c37_30)
noncomputable def c37_31 : Code := (cL c37_1)
noncomputable def o37_1 : Array Oper := rO (cL c37_31)
noncomputable def c37_32 : Code := (cR c37_31)
noncomputable def c37_33 : Code := (cL c37_32)
noncomputable def o37_2 : Array Oper := rO (cL c37_33)
theorem o37_0_eq : opsW N M G 87 V37 o37_0 k o37_0.toList [] e e w =
    (M (Value.int IntKind.i64 0) fun t4 =>
    M (Value.int IntKind.i64 0) fun t5 =>
    k (Env.p (Env.p e 4 t4) 5 t5) w) := nr (by kernel_rfl)
theorem o37_8_eq : opsW N M G 87 V37 o37_8 k o37_8.toList [] e e w =
    (M (e 0) fun t23 =>
    N (xnil t23) w fun t24 w =>
    N (xv (Instr.fieldAt 75 t24 2)) w fun t25 w =>
    N (xv (Instr.loadAt 2 t25)) w fun t26 w =>
    N (xv (xbin BinOp.add 2 (Operand.tmp 26) (Operand.const (Value.int IntKind.i64 1)) t26 (Value.int IntKind.i64 1))) w fun t27 w =>
    N (xnil t23) w fun t28 w =>
    N (xv (Instr.fieldAt 75 t28 2)) w fun t29 w =>
    N (xu (Instr.storeAt 2 t29 t27)) w fun _ w =>
    k e w) := nr (by kernel_rfl)
theorem o37_18_eq : opsW N M G 87 V37 o37_18 k o37_18.toList [] e e w =
    (M (e 0) fun t83 =>
    N (xnil t83) w fun t84 w =>
    N (xv (Instr.fieldAt 75 t84 2)) w fun t85 w =>
    N (xv (Instr.loadAt 2 t85)) w fun t86 w =>
    M t86 fun t4 =>
    M (Value.int IntKind.i64 0) fun t5 =>
    k (Env.p (Env.p e 4 t4) 5 t5) w) := nr (by kernel_rfl)
theorem c37_6_s (hw : Cur w) : W Try.prog 87 V37 c37_6 Q e w = (opsW (nx Try.prog) mv gdP 87 V37 o37_18 (fun e w => Q .ret e w) o37_18.toList [] e e w) := by rw [(by kernel_rfl : c37_6 = .seq (.region 18 o37_18 false) Code.ret), W_seq_reg]; simp only [W_ret, W_skip, W_exit, W_label]
theorem o37_9_eq : opsW N M G 87 V37 o37_9 k o37_9.toList [] e e w =
    (M (e 1) fun t30 =>
    N (builtin Builtin.len #[37] 3 ([false]).toArray ([t30]).toArray) w fun t31 w =>
    M (Value.int IntKind.i64 0) fun t32 =>
    k (Env.p (Env.p (Env.p e 30 t30) 31 t31) 32 t32) w) := nr (by kernel_rfl)
theorem o37_10_eq : opsW N M G 87 V37 o37_10 k o37_10.toList [] e e w =
    (N (xv (xbin BinOp.lss 3 (Operand.tmp 32) (Operand.tmp 31) (e 32) (e 31))) w fun t33 w =>
    k (Env.p e 33 t33) w) := nr (by kernel_rfl)
theorem o37_17_eq : opsW N M G 87 V37 o37_17 k o37_17.toList [] e e w =
    (N (xv (xbin BinOp.add 3 (Operand.tmp 32) (Operand.const (Value.int IntKind.i64 1)) (e 32) (Value.int IntKind.i64 1))) w fun t82 w =>
    M t82 fun t32 =>
    k (Env.p e 32 t32) w) := nr (by kernel_rfl)
theorem c37_13_s (hw : Cur w) : W Try.prog 87 V37 c37_13 Q e w = (opsW (nx Try.prog) mv gdP 87 V37 o37_17 (fun e w => Q .normal e w) o37_17.toList [] e e w) := by rw [(by kernel_rfl : c37_13 = (.region 17 o37_17 false)), W_reg]
theorem o37_11_eq : opsW N M G 87 V37 o37_11 k o37_11.toList [] e e w =
    (N (xv (Instr.indexAt 37 (e 30) (e 32))) w fun t34 w =>
    N (xv (Instr.loadAt 57 t34)) w fun t35 w =>
    N (xv (Instr.alloc 57 true (.tuple #[]))) w fun t8 w =>
    N (xu (Instr.storeAt 57 t8 t35)) w fun _ w =>
    k (Env.p e 8 t8) w) := nr (by kernel_rfl)
theorem o37_12_eq : drawGo N T M G H 87 V37 o37_12 S k o37_12.size true (Array.replicate o37_12.size false) [] e e w =
    (M (e 0) fun t36 =>
    T (xnil t36) fun t37 =>
    T (xv (Instr.fieldAt 75 t37 0)) fun t38 =>
    T (xv (Instr.loadAt 73 t38)) fun t39 =>
    T (xv (Instr.fieldAt 57 (e 8) 0)) fun t40 =>
    T (xv (Instr.loadAt 9 t40)) fun t41 =>
    T (xv (Instr.lookup 73 t39 t41 false)) fun t42 =>
    N (xv (Instr.alloc 93 true (.tuple #[]))) w fun t9 w =>
    S w ∧ (N (xu (Instr.storeAt 93 t9 t42)) w fun _ w =>
    k (Env.p e 9 t9) w)) := nr (by kernel_rfl)
theorem o37_13_eq : drawGo N T M G H 87 V37 o37_13 S k o37_13.size true (Array.replicate o37_13.size false) [] e e w =
    (T (xv (Instr.fieldAt 93 (e 9) 0)) fun t43 =>
    T (xv (Instr.loadAt 91 t43)) fun t44 =>
    M (e 0) fun t46 =>
    T (xnil t46) fun t47 =>
    T (xv (Instr.fieldAt 75 t47 2)) fun t48 =>
    T (xv (Instr.loadAt 2 t48)) fun t49 =>
    T (xv (Instr.fieldAt 57 (e 8) 1)) fun t50 =>
    T (xv (Instr.loadAt 35 t50)) fun t51 =>
    T (xv (Instr.build 95 ([(0, t49), (1, t51)]).toArray)) fun t52 =>
    (N (xcall (Value.func (Fn.func 59) #[] #[]) [t44]) w fun t45 w =>
    S w ∧ (N (xv (Instr.buildSlice 91 1 ([(0, t52)]).toArray)) w fun t53 w =>
    S w ∧ (N (builtin Builtin.append #[91, 91] 91 ([false, false]).toArray ([t45, t53]).toArray) w fun t54 w =>
    S w ∧ (M t54 fun t10 =>
    k (Env.p e 10 t10) w)))) ∧ (N (xv (Instr.buildSlice 91 1 ([(0, t52)]).toArray)) w fun t53 w =>
    S w ∧ (N (xcall (Value.func (Fn.func 59) #[] #[]) [t44]) w fun t45 w =>
    S w ∧ (N (builtin Builtin.append #[91, 91] 91 ([false, false]).toArray ([t45, t53]).toArray) w fun t54 w =>
    S w ∧ (M t54 fun t10 =>
    k (Env.p e 10 t10) w))))) := nr (by kernel_rfl)
theorem o37_16_eq : drawGo N T M G H 87 V37 o37_16 S k o37_16.size true (Array.replicate o37_16.size false) [] e e w =
    (M (e 0) fun t72 =>
    T (xnil t72) fun t73 =>
    T (xv (Instr.fieldAt 75 t73 0)) fun t74 =>
    T (xv (Instr.loadAt 73 t74)) fun t75 =>
    T (xv (Instr.fieldAt 57 (e 8) 0)) fun t76 =>
    T (xv (Instr.loadAt 9 t76)) fun t77 =>
    M (e 10) fun t78 =>
    T (xv (Instr.fieldAt 93 (e 9) 1)) fun t79 =>
    T (xv (Instr.loadAt 4 t79)) fun t80 =>
    T (xv (Instr.build 93 ([(0, t78), (1, t80)]).toArray)) fun t81 =>
    N (xu (Instr.mapUpdate 73 t75 t77 t81)) w fun _ w =>
    k e w) := nr (by kernel_rfl)
theorem c37_19_s (hw : Cur w) : W Try.prog 87 V37 c37_19 Q e w = (∃ S : World → Prop, S w.drew ∧ drawGo (nx Try.prog) (takeP Try.prog S) mv gdP gdT 87 V37 o37_16 S (fun e w => Q .normal e w) o37_16.size true (Array.replicate o37_16.size false) [] e e w.drew) := by rw [(by kernel_rfl : c37_19 = (.region 16 o37_16 true)), W_regD']
theorem o37_14_eq : opsW N M G 87 V37 o37_14 k o37_14.toList [] e e w =
    (M (e 10) fun t55 =>
    N (builtin Builtin.len #[91] 3 ([false]).toArray ([t55]).toArray) w fun t56 w =>
    M (e 0) fun t57 =>
    N (xnil t57) w fun t58 w =>
    N (xv (Instr.fieldAt 75 t58 1)) w fun t59 w =>
    N (xv (Instr.loadAt 3 t59)) w fun t60 w =>
    N (xv (xbin BinOp.gtr 3 (Operand.tmp 56) (Operand.tmp 60) t56 t60)) w fun t61 w =>
    k (Env.p e 61 t61) w) := nr (by kernel_rfl)
theorem o37_15_eq : opsW N M G 87 V37 o37_15 k o37_15.toList [] e e w =
    (M (e 10) fun t62 =>
    M (e 10) fun t63 =>
    N (builtin Builtin.len #[91] 3 ([false]).toArray ([t63]).toArray) w fun t64 w =>
    M (e 0) fun t65 =>
    N (xnil t65) w fun t66 w =>
    N (xv (Instr.fieldAt 75 t66 1)) w fun t67 w =>
    N (xv (Instr.loadAt 3 t67)) w fun t68 w =>
    N (xv (xbin BinOp.sub 3 (Operand.tmp 64) (Operand.tmp 68) t64 t68)) w fun t69 w =>
    N (xv (Instr.sliceAt 91 t62 (some t69) none none)) w fun t70 w =>
    M t70 fun t10 =>
    N (xv (Instr.fieldAt 93 (e 9) 1)) w fun t71 w =>
    N (xu (Instr.storeAt 4 t71 (Value.bool true))) w fun _ w =>
    k (Env.p e 10 t10) w) := nr (by kernel_rfl)
theorem c37_22_s (hw : Cur w) : W Try.prog 87 V37 c37_22 Q e w = (opsW (nx Try.prog) mv gdP 87 V37 o37_15 (fun e w => Q .normal e w) o37_15.toList [] e e w) := by rw [(by kernel_rfl : c37_22 = (.region 15 o37_15 false)), W_reg]
theorem c37_21_v : opV V37 (.tmp 61) = true := by kernel_rfl
theorem c37_21_s (hw : Cur w) : W Try.prog 87 V37 c37_21 Q e w = (condP (ev e (.tmp 61)) (W Try.prog 87 V37 c37_22 Q e w) (Q .normal e w)) := by rw [(by kernel_rfl : c37_21 = .cond (.tmp 61) c37_22 Code.skip), W_cond, c37_21_v, cond_true]; simp only [W_ret, W_skip, W_exit, W_label]
theorem c37_20_s (hw : Cur w) : W Try.prog 87 V37 c37_20 Q e w = (opsW (nx Try.prog) mv gdP 87 V37 o37_14 (fun e w => W Try.prog 87 V37 c37_21 Q e w) o37_14.toList [] e e w) := by rw [(by kernel_rfl : c37_20 = .seq (.region 14 o37_14 false) c37_21), W_seq_reg]
theorem c37_18_s (hw : Cur w) : W Try.prog 87 V37 c37_18 Q e w = (W Try.prog 87 V37 c37_20 (seqQ (fun e w => W Try.prog 87 V37 c37_19 Q e w) Q) e w) := by rw [(by kernel_rfl : c37_18 = .seq c37_20 c37_19), W_seq]
theorem c37_17_s (hw : Cur w) : W Try.prog 87 V37 c37_17 Q e w = (∃ S : World → Prop, S w.drew ∧ drawGo (nx Try.prog) (takeP Try.prog S) mv gdP gdT 87 V37 o37_13 S (fun e w => W Try.prog 87 V37 c37_18 Q e w) o37_13.size true (Array.replicate o37_13.size false) [] e e w.drew) := by rw [(by kernel_rfl : c37_17 = .seq (.region 13 o37_13 true) c37_18), W_seq_regD]
theorem c37_16_s (hw : Cur w) : W Try.prog 87 V37 c37_16 Q e w = (∃ S : World → Prop, S w.drew ∧ drawGo (nx Try.prog) (takeP Try.prog S) mv gdP gdT 87 V37 o37_12 S (fun e w => W Try.prog 87 V37 c37_17 Q e w) o37_12.size true (Array.replicate o37_12.size false) [] e e w.drew) := by rw [(by kernel_rfl : c37_16 = .seq (.region 12 o37_12 true) c37_17), W_seq_regD]
theorem c37_15_s (hw : Cur w) : W Try.prog 87 V37 c37_15 Q e w = (opsW (nx Try.prog) mv gdP 87 V37 o37_11 (fun e w => W Try.prog 87 V37 c37_16 Q e w) o37_11.toList [] e e w) := by rw [(by kernel_rfl : c37_15 = .seq (.region 11 o37_11 false) c37_16), W_seq_reg]
theorem c37_14_s (hw : Cur w) : W Try.prog 87 V37 c37_14 Q e w = (W Try.prog 87 V37 c37_15 (blockQ 1 Q) e w) := by rw [(by kernel_rfl : c37_14 = .block 1 c37_15), W_block]
theorem c37_12_s (hw : Cur w) : W Try.prog 87 V37 c37_12 Q e w = (W Try.prog 87 V37 c37_14 (seqQ (fun e w => W Try.prog 87 V37 c37_13 Q e w) Q) e w) := by rw [(by kernel_rfl : c37_12 = .seq c37_14 c37_13), W_seq]
theorem c37_23_v : opV V37 (.tmp 33) = true := by kernel_rfl
theorem c37_23_s (hw : Cur w) : W Try.prog 87 V37 c37_23 Q e w = (condP (ev e (.tmp 33)) (Q .normal e w) (Q (.exit 0) e w)) := by rw [(by kernel_rfl : c37_23 = .cond (.tmp 33) Code.skip (Code.exit 0)), W_cond, c37_23_v, cond_true]; simp only [W_ret, W_skip, W_exit, W_label]
theorem c37_11_s (hw : Cur w) : W Try.prog 87 V37 c37_11 Q e w = (W Try.prog 87 V37 c37_23 (seqQ (fun e w => W Try.prog 87 V37 c37_12 Q e w) Q) e w) := by rw [(by kernel_rfl : c37_11 = .seq c37_23 c37_12), W_seq]
theorem c37_10_s (hw : Cur w) : W Try.prog 87 V37 c37_10 Q e w = (opsW (nx Try.prog) mv gdP 87 V37 o37_10 (fun e w => W Try.prog 87 V37 c37_11 Q e w) o37_10.toList [] e e w) := by rw [(by kernel_rfl : c37_10 = .seq (.region 10 o37_10 false) c37_11), W_seq_reg]
theorem c37_9_s (hw : Cur w) : W Try.prog 87 V37 c37_9 Q e w = (LoopP (fun e w k => W Try.prog 87 V37 c37_10 (seqQ k Q) e w) e w) := by rw [(by kernel_rfl : c37_9 = .loop c37_10), W_loop]
theorem c37_8_s (hw : Cur w) : W Try.prog 87 V37 c37_8 Q e w = (W Try.prog 87 V37 c37_9 (blockQ 0 Q) e w) := by rw [(by kernel_rfl : c37_8 = .block 0 c37_9), W_block]
theorem c37_7_s (hw : Cur w) : W Try.prog 87 V37 c37_7 Q e w = (opsW (nx Try.prog) mv gdP 87 V37 o37_9 (fun e w => W Try.prog 87 V37 c37_8 Q e w) o37_9.toList [] e e w) := by rw [(by kernel_rfl : c37_7 = .seq (.region 9 o37_9 false) c37_8), W_seq_reg]
theorem c37_5_s (hw : Cur w) : W Try.prog 87 V37 c37_5 Q e w = (W Try.prog 87 V37 c37_7 (seqQ (fun e w => W Try.prog 87 V37 c37_6 Q e w) Q) e w) := by rw [(by kernel_rfl : c37_5 = .seq c37_7 c37_6), W_seq]
theorem c37_4_s (hw : Cur w) : W Try.prog 87 V37 c37_4 Q e w = (opsW (nx Try.prog) mv gdP 87 V37 o37_8 (fun e w => W Try.prog 87 V37 c37_5 Q e w) o37_8.toList [] e e w) := by rw [(by kernel_rfl : c37_4 = .seq (.region 8 o37_8 false) c37_5), W_seq_reg]
theorem o37_6_eq : opsW N M G 87 V37 o37_6 k o37_6.toList [] e e w =
    (M (e 0) fun t18 =>
    N (xnil t18) w fun t19 w =>
    N (xv (Instr.fieldAt 75 t19 2)) w fun t20 w =>
    N (xv (Instr.loadAt 2 t20)) w fun t21 w =>
    N (xv (xbin BinOp.geq 2 (Operand.tmp 21) (Operand.const (Value.int IntKind.i64 1099511627776)) t21 (Value.int IntKind.i64 1099511627776))) w fun t22 w =>
    k (Env.p e 22 t22) w) := nr (by kernel_rfl)
theorem o37_7_eq : opsW N M G 87 V37 o37_7 k o37_7.toList [] e e w =
    (M (Value.int IntKind.i64 0) fun t4 =>
    M (Value.int IntKind.i64 2) fun t5 =>
    k (Env.p (Env.p e 4 t4) 5 t5) w) := nr (by kernel_rfl)
theorem c37_26_s (hw : Cur w) : W Try.prog 87 V37 c37_26 Q e w = (opsW (nx Try.prog) mv gdP 87 V37 o37_7 (fun e w => Q .ret e w) o37_7.toList [] e e w) := by rw [(by kernel_rfl : c37_26 = .seq (.region 7 o37_7 false) Code.ret), W_seq_reg]; simp only [W_ret, W_skip, W_exit, W_label]
theorem c37_25_v : opV V37 (.tmp 22) = true := by kernel_rfl
theorem c37_25_s (hw : Cur w) : W Try.prog 87 V37 c37_25 Q e w = (condP (ev e (.tmp 22)) (W Try.prog 87 V37 c37_26 Q e w) (Q .normal e w)) := by rw [(by kernel_rfl : c37_25 = .cond (.tmp 22) c37_26 Code.skip), W_cond, c37_25_v, cond_true]; simp only [W_ret, W_skip, W_exit, W_label]
theorem c37_24_s (hw : Cur w) : W Try.prog 87 V37 c37_24 Q e w = (opsW (nx Try.prog) mv gdP 87 V37 o37_6 (fun e w => W Try.prog 87 V37 c37_25 Q e w) o37_6.toList [] e e w) := by rw [(by kernel_rfl : c37_24 = .seq (.region 6 o37_6 false) c37_25), W_seq_reg]
theorem c37_3_s (hw : Cur w) : W Try.prog 87 V37 c37_3 Q e w = (W Try.prog 87 V37 c37_24 (seqQ (fun e w => W Try.prog 87 V37 c37_4 Q e w) Q) e w) := by rw [(by kernel_rfl : c37_3 = .seq c37_24 c37_4), W_seq]
theorem o37_3_eq : opsW N M G 87 V37 o37_3 k o37_3.toList [] e e w =
    (M (e 1) fun t13 =>
    N (xcall (Value.func (Fn.func 58) #[] #[]) [t13]) w fun t14 w =>
    M t14 fun t6 =>
    k (Env.p e 6 t6) w) := nr (by kernel_rfl)
theorem o37_4_eq : opsW N M G 87 V37 o37_4 k o37_4.toList [] e e w =
    (M (e 6) fun t15 =>
    N (xv (xbin BinOp.neq 36 (Operand.tmp 15) (Operand.const (Value.int IntKind.i64 0)) t15 (Value.int IntKind.i64 0))) w fun t16 w =>
    k (Env.p e 16 t16) w) := nr (by kernel_rfl)
theorem o37_5_eq : opsW N M G 87 V37 o37_5 k o37_5.toList [] e e w =
    (M (e 6) fun t17 =>
    M (Value.int IntKind.i64 0) fun t4 =>
    M t17 fun t5 =>
    k (Env.p (Env.p e 4 t4) 5 t5) w) := nr (by kernel_rfl)
theorem c37_30_s (hw : Cur w) : W Try.prog 87 V37 c37_30 Q e w = (opsW (nx Try.prog) mv gdP 87 V37 o37_5 (fun e w => Q .ret e w) o37_5.toList [] e e w) := by rw [(by kernel_rfl : c37_30 = .seq (.region 5 o37_5 false) Code.ret), W_seq_reg]; simp only [W_ret, W_skip, W_exit, W_label]
theorem c37_29_v : opV V37 (.tmp 16) = true := by kernel_rfl
theorem c37_29_s (hw : Cur w) : W Try.prog 87 V37 c37_29 Q e w = (condP (ev e (.tmp 16)) (W Try.prog 87 V37 c37_30 Q e w) (Q .normal e w)) := by rw [(by kernel_rfl : c37_29 = .cond (.tmp 16) c37_30 Code.skip), W_cond, c37_29_v, cond_true]; simp only [W_ret, W_skip, W_exit, W_label]
theorem c37_28_s (hw : Cur w) : W Try.prog 87 V37 c37_28 Q e w = (opsW (nx Try.prog) mv gdP 87 V37 o37_4 (fun e w => W Try.prog 87 V37 c37_29 Q e w) o37_4.toList [] e e w) := by rw [(by kernel_rfl : c37_28 = .seq (.region 4 o37_4 false) c37_29), W_seq_reg]
theorem c37_27_s (hw : Cur w) : W Try.prog 87 V37 c37_27 Q e w = (opsW (nx Try.prog) mv gdP 87 V37 o37_3 (fun e w => W Try.prog 87 V37 c37_28 Q e w) o37_3.toList [] e e w) := by rw [(by kernel_rfl : c37_27 = .seq (.region 3 o37_3 false) c37_28), W_seq_reg]
theorem c37_2_s (hw : Cur w) : W Try.prog 87 V37 c37_2 Q e w = (W Try.prog 87 V37 c37_27 (seqQ (fun e w => W Try.prog 87 V37 c37_3 Q e w) Q) e w) := by rw [(by kernel_rfl : c37_2 = .seq c37_27 c37_3), W_seq]
theorem o37_1_eq : opsW N M G 87 V37 o37_1 k o37_1.toList [] e e w =
    (M (e 0) fun t11 =>
    N (xv (xbin BinOp.eql 60 (Operand.tmp 11) (Operand.const (Value.pointer none)) t11 (Value.pointer none))) w fun t12 w =>
    k (Env.p e 12 t12) w) := nr (by kernel_rfl)
theorem o37_2_eq : opsW N M G 87 V37 o37_2 k o37_2.toList [] e e w =
    (M (Value.int IntKind.i64 0) fun t4 =>
    M (Value.int IntKind.i64 3) fun t5 =>
    k (Env.p (Env.p e 4 t4) 5 t5) w) := nr (by kernel_rfl)
theorem c37_33_s (hw : Cur w) : W Try.prog 87 V37 c37_33 Q e w = (opsW (nx Try.prog) mv gdP 87 V37 o37_2 (fun e w => Q .ret e w) o37_2.toList [] e e w) := by rw [(by kernel_rfl : c37_33 = .seq (.region 2 o37_2 false) Code.ret), W_seq_reg]; simp only [W_ret, W_skip, W_exit, W_label]
theorem c37_32_v : opV V37 (.tmp 12) = true := by kernel_rfl
theorem c37_32_s (hw : Cur w) : W Try.prog 87 V37 c37_32 Q e w = (condP (ev e (.tmp 12)) (W Try.prog 87 V37 c37_33 Q e w) (Q .normal e w)) := by rw [(by kernel_rfl : c37_32 = .cond (.tmp 12) c37_33 Code.skip), W_cond, c37_32_v, cond_true]; simp only [W_ret, W_skip, W_exit, W_label]
theorem c37_31_s (hw : Cur w) : W Try.prog 87 V37 c37_31 Q e w = (opsW (nx Try.prog) mv gdP 87 V37 o37_1 (fun e w => W Try.prog 87 V37 c37_32 Q e w) o37_1.toList [] e e w) := by rw [(by kernel_rfl : c37_31 = .seq (.region 1 o37_1 false) c37_32), W_seq_reg]
theorem c37_1_s (hw : Cur w) : W Try.prog 87 V37 c37_1 Q e w = (W Try.prog 87 V37 c37_31 (seqQ (fun e w => W Try.prog 87 V37 c37_2 Q e w) Q) e w) := by rw [(by kernel_rfl : c37_1 = .seq c37_31 c37_2), W_seq]
theorem c37_s (hw : Cur w) : W Try.prog 87 V37 c37 Q e w = (opsW (nx Try.prog) mv gdP 87 V37 o37_0 (fun e w => W Try.prog 87 V37 c37_1 Q e w) o37_0.toList [] e e w) := by rw [(by kernel_rfl : c37 = .seq (.region 0 o37_0 false) c37_1), W_seq_reg]
theorem call37 {a0 a1 : Value} {w : World} {R : Value → World → Prop} (h : W Try.prog 87 V37 c37 (retQ Try.prog [.tmp 4, .tmp 5] R) (argE [a0, a1]) w) : CallsN Try.prog 37 [a0, a1] w R :=
  callsN_of_W (c := c37) (rs := [.tmp 4, .tmp 5]) V37 Try.ntmps37 (by rw [Try.results37]) mixed Try.func37 (by kernel_rfl) (by kernel_rfl) (by kernel_rfl) (by kernel_rfl) (by simp) h
noncomputable def hk37 := And.intro (@o37_0_eq) <| And.intro (@o37_8_eq) <| And.intro (@o37_18_eq) <| And.intro (@c37_6_s) <| And.intro (@o37_9_eq) <| And.intro (@o37_10_eq) <| And.intro (@o37_17_eq) <| And.intro (@c37_13_s) <| And.intro (@o37_11_eq) <| And.intro (@o37_12_eq) <| And.intro (@o37_13_eq) <| And.intro (@o37_16_eq) <| And.intro (@c37_19_s) <| And.intro (@o37_14_eq) <| And.intro (@o37_15_eq) <| And.intro (@c37_22_s) <| And.intro (@c37_21_s) <| And.intro (@c37_20_s) <| And.intro (@c37_18_s) <| And.intro (@c37_17_s) <| And.intro (@c37_16_s) <| And.intro (@c37_15_s) <| And.intro (@c37_14_s) <| And.intro (@c37_12_s) <| And.intro (@c37_23_s) <| And.intro (@c37_11_s) <| And.intro (@c37_10_s) <| And.intro (@c37_9_s) <| And.intro (@c37_8_s) <| And.intro (@c37_7_s) <| And.intro (@c37_5_s) <| And.intro (@c37_4_s) <| And.intro (@o37_6_eq) <| And.intro (@o37_7_eq) <| And.intro (@c37_26_s) <| And.intro (@c37_25_s) <| And.intro (@c37_24_s) <| And.intro (@c37_3_s) <| And.intro (@o37_3_eq) <| And.intro (@o37_4_eq) <| And.intro (@o37_5_eq) <| And.intro (@c37_30_s) <| And.intro (@c37_29_s) <| And.intro (@c37_28_s) <| And.intro (@c37_27_s) <| And.intro (@c37_2_s) <| And.intro (@o37_1_eq) <| And.intro (@o37_2_eq) <| And.intro (@c37_33_s) <| And.intro (@c37_32_s) <| And.intro (@c37_31_s) <| And.intro (@c37_1_s) <| @c37_s
-- K37: ↓hk37
end
end Go.Proofs.Ytgloomahpjpiiaa
