/- The equations of the code of some functions, written by the printer gen.py: each is checked by the kernel. -/
import Derived.Test.YtgloomahpjpiiaaGreatQ0
set_option linter.unusedVariables false
set_option linter.unusedSimpArgs false
set_option maxRecDepth 100000
namespace Go.Proofs.YtgloomahpjpiiaaGreat
open Go.VW
noncomputable section
set_option linter.defProp false
variable {N : Sem Next → World → (Value → World → Prop) → Prop} {T : Sem Next → (Value → Prop) → Prop} {M : Value → (Value → Prop) → Prop} {G : Bool → ((Value → World → Prop) → Prop) → (Value → World → Prop) → World → Prop}
  {H : Bool → ((Value → Prop) → Prop) → (Value → Prop) → Prop} {S : World → Prop} {k : Env → World → Prop} {Q : Exit → Env → World → Prop} {e : Env} {w : World}
  {T2 : Nat → Sem Next → (Value → Prop) → Prop} {S2 : Nat → World → Prop}
/-! ### (*vouch/store.Store) . Commit -/
def V56 : Nat → Bool := fun i => [0, 1, 4, 5, 6, 8, 9, 10, 12, 16, 22, 30, 31, 32, 33, 61].elem i
noncomputable def c56 : Code := (Tryz.f56.body.getD .skip)
noncomputable def o56_0 : Array Oper := rO (cL c56)
noncomputable def c56_1 : Code := (cR c56)
noncomputable def c56_2 : Code := (cR c56_1)
noncomputable def c56_3 : Code := (cR c56_2)
noncomputable def c56_4 : Code := (cR c56_3)
noncomputable def o56_8 : Array Oper := rO (cL c56_4)
noncomputable def c56_5 : Code := (cR c56_4)
noncomputable def c56_6 : Code := (cR c56_5)
noncomputable def o56_18 : Array Oper := rO (cL c56_6)
noncomputable def c56_7 : Code := (cL c56_5)
noncomputable def o56_9 : Array Oper := rO (cL c56_7)
noncomputable def c56_8 : Code := (cR c56_7)
noncomputable def c56_9 : Code := (cL c56_8)
noncomputable def c56_10 : Code := (cL c56_9)
noncomputable def o56_10 : Array Oper := rO (cL c56_10)
noncomputable def c56_11 : Code := (cR c56_10)
noncomputable def c56_12 : Code := (cR c56_11)
noncomputable def c56_13 : Code := (cR c56_12)
noncomputable def o56_17 : Array Oper := rO c56_13
noncomputable def c56_14 : Code := (cL c56_12)
noncomputable def c56_15 : Code := (cL c56_14)
noncomputable def o56_11 : Array Oper := rO (cL c56_15)
noncomputable def c56_16 : Code := (cR c56_15)
noncomputable def o56_12 : Array Oper := rO (cL c56_16)
noncomputable def c56_17 : Code := (cR c56_16)
noncomputable def o56_13 : Array Oper := rO (cL c56_17)
noncomputable def c56_18 : Code := (cR c56_17)
noncomputable def c56_19 : Code := (cR c56_18)
noncomputable def o56_16 : Array Oper := rO c56_19
noncomputable def c56_20 : Code := (cL c56_18)
noncomputable def o56_14 : Array Oper := rO (cL c56_20)
noncomputable def c56_21 : Code := (cR c56_20)
noncomputable def c56_22 : Code := (cL c56_21)
noncomputable def o56_15 : Array Oper := rO c56_22
noncomputable def c56_23 : Code := (cL c56_11)
noncomputable def c56_24 : Code := (cL c56_3)
noncomputable def o56_6 : Array Oper := rO (cL c56_24)
noncomputable def c56_25 : Code := (cR c56_24)
noncomputable def c56_26 : Code := (cL c56_25)
noncomputable def o56_7 : Array Oper := rO (cL c56_26)
noncomputable def c56_27 : Code := (cL c56_2)
noncomputable def o56_3 : Array Oper := rO (cL c56_27)
noncomputable def c56_28 : Code := (cR c56_27)
noncomputable def o56_4 : Array Oper := rO (cL c56_28)
noncomputable def c56_29 : Code := (cR c56_28)
noncomputable def c56_30 : Code := (cL c56_29)
noncomputable def o56_5 : Array Oper := rO (cL c56_30)
noncomputable def c56_31 : Code := (cL c56_1)
noncomputable def o56_1 : Array Oper := rO (cL c56_31)
noncomputable def c56_32 : Code := (cR c56_31)
noncomputable def c56_33 : Code := (cL c56_32)
noncomputable def o56_2 : Array Oper := rO (cL c56_33)
theorem o56_0_eq : opsW N M G 87 V56 o56_0 k o56_0.toList [] e e w =
    (M (Value.int IntKind.i64 0) fun t4 =>
    M (Value.int IntKind.i64 0) fun t5 =>
    k (Env.p (Env.p e 4 t4) 5 t5) w) := nr (by kernel_rfl)
theorem o56_8_eq : opsW N M G 87 V56 o56_8 k o56_8.toList [] e e w =
    (M (e 0) fun t23 =>
    N (xnil t23) w fun t24 w =>
    N (xv (Instr.fieldAt 103 t24 2)) w fun t25 w =>
    N (xv (Instr.loadAt 2 t25)) w fun t26 w =>
    N (xv (xbin BinOp.add 2 (Operand.tmp 26) (Operand.const (Value.int IntKind.i64 1)) t26 (Value.int IntKind.i64 1))) w fun t27 w =>
    N (xnil t23) w fun t28 w =>
    N (xv (Instr.fieldAt 103 t28 2)) w fun t29 w =>
    N (xu (Instr.storeAt 2 t29 t27)) w fun _ w =>
    k e w) := nr (by kernel_rfl)
theorem o56_18_eq : opsW N M G 87 V56 o56_18 k o56_18.toList [] e e w =
    (M (e 0) fun t83 =>
    N (xnil t83) w fun t84 w =>
    N (xv (Instr.fieldAt 103 t84 2)) w fun t85 w =>
    N (xv (Instr.loadAt 2 t85)) w fun t86 w =>
    M t86 fun t4 =>
    M (Value.int IntKind.i64 0) fun t5 =>
    k (Env.p (Env.p e 4 t4) 5 t5) w) := nr (by kernel_rfl)
theorem c56_6_s (hw : Cur w) : W Tryz.prog 87 V56 c56_6 Q e w = (opsW (nx Tryz.prog) mv gdP 87 V56 o56_18 (fun e w => Q .ret e w) o56_18.toList [] e e w) := by rw [(by kernel_rfl : c56_6 = .seq (.region 18 o56_18 false) Code.ret), W_seq_reg]; simp only [W_ret, W_skip, W_exit, W_label]
theorem o56_9_eq : opsW N M G 87 V56 o56_9 k o56_9.toList [] e e w =
    (M (e 1) fun t30 =>
    N (builtin Builtin.len #[37] 3 ([false]).toArray ([t30]).toArray) w fun t31 w =>
    M (Value.int IntKind.i64 0) fun t32 =>
    k (Env.p (Env.p (Env.p e 30 t30) 31 t31) 32 t32) w) := nr (by kernel_rfl)
theorem o56_10_eq : opsW N M G 87 V56 o56_10 k o56_10.toList [] e e w =
    (N (xv (xbin BinOp.lss 3 (Operand.tmp 32) (Operand.tmp 31) (e 32) (e 31))) w fun t33 w =>
    k (Env.p e 33 t33) w) := nr (by kernel_rfl)
theorem o56_17_eq : opsW N M G 87 V56 o56_17 k o56_17.toList [] e e w =
    (N (xv (xbin BinOp.add 3 (Operand.tmp 32) (Operand.const (Value.int IntKind.i64 1)) (e 32) (Value.int IntKind.i64 1))) w fun t82 w =>
    M t82 fun t32 =>
    k (Env.p e 32 t32) w) := nr (by kernel_rfl)
theorem c56_13_s (hw : Cur w) : W Tryz.prog 87 V56 c56_13 Q e w = (opsW (nx Tryz.prog) mv gdP 87 V56 o56_17 (fun e w => Q .normal e w) o56_17.toList [] e e w) := by rw [(by kernel_rfl : c56_13 = (.region 17 o56_17 false)), W_reg]
theorem o56_11_eq : opsW N M G 87 V56 o56_11 k o56_11.toList [] e e w =
    (N (xv (Instr.indexAt 37 (e 30) (e 32))) w fun t34 w =>
    N (xv (Instr.loadAt 66 t34)) w fun t35 w =>
    N (xv (Instr.alloc 66 true (.tuple #[]))) w fun t8 w =>
    N (xu (Instr.storeAt 66 t8 t35)) w fun _ w =>
    k (Env.p e 8 t8) w) := nr (by kernel_rfl)
theorem o56_12_eq : drawGo N T M G H 87 V56 o56_12 S k o56_12.size true (Array.replicate o56_12.size false) [] e e w =
    (M (e 0) fun t36 =>
    T (xnil t36) fun t37 =>
    T (xv (Instr.fieldAt 103 t37 0)) fun t38 =>
    T (xv (Instr.loadAt 101 t38)) fun t39 =>
    T (xv (Instr.fieldAt 66 (e 8) 0)) fun t40 =>
    T (xv (Instr.loadAt 9 t40)) fun t41 =>
    T (xv (Instr.lookup 101 t39 t41 false)) fun t42 =>
    N (xv (Instr.alloc 128 true (.tuple #[]))) w fun t9 w =>
    S w ∧ (N (xu (Instr.storeAt 128 t9 t42)) w fun _ w =>
    k (Env.p e 9 t9) w)) := nr (by kernel_rfl)
theorem o56_13_eq : drawGo N T M G H 87 V56 o56_13 S k o56_13.size true (Array.replicate o56_13.size false) [] e e w =
    (T (xv (Instr.fieldAt 128 (e 9) 0)) fun t43 =>
    T (xv (Instr.loadAt 91 t43)) fun t44 =>
    M (e 0) fun t46 =>
    T (xnil t46) fun t47 =>
    T (xv (Instr.fieldAt 103 t47 2)) fun t48 =>
    T (xv (Instr.loadAt 2 t48)) fun t49 =>
    T (xv (Instr.fieldAt 66 (e 8) 1)) fun t50 =>
    T (xv (Instr.loadAt 35 t50)) fun t51 =>
    T (xv (Instr.build 94 ([(0, t49), (1, t51)]).toArray)) fun t52 =>
    (N (xcall (Value.func (Fn.func 88) #[] #[]) [t44]) w fun t45 w =>
    S w ∧ (N (xv (Instr.buildSlice 91 1 ([(0, t52)]).toArray)) w fun t53 w =>
    S w ∧ (N (builtin Builtin.append #[91, 91] 91 ([false, false]).toArray ([t45, t53]).toArray) w fun t54 w =>
    S w ∧ (M t54 fun t10 =>
    k (Env.p e 10 t10) w)))) ∧ (N (xv (Instr.buildSlice 91 1 ([(0, t52)]).toArray)) w fun t53 w =>
    S w ∧ (N (xcall (Value.func (Fn.func 88) #[] #[]) [t44]) w fun t45 w =>
    S w ∧ (N (builtin Builtin.append #[91, 91] 91 ([false, false]).toArray ([t45, t53]).toArray) w fun t54 w =>
    S w ∧ (M t54 fun t10 =>
    k (Env.p e 10 t10) w))))) := nr (by kernel_rfl)
theorem o56_16_eq : drawGo N T M G H 87 V56 o56_16 S k o56_16.size true (Array.replicate o56_16.size false) [] e e w =
    (M (e 0) fun t72 =>
    T (xnil t72) fun t73 =>
    T (xv (Instr.fieldAt 103 t73 0)) fun t74 =>
    T (xv (Instr.loadAt 101 t74)) fun t75 =>
    T (xv (Instr.fieldAt 66 (e 8) 0)) fun t76 =>
    T (xv (Instr.loadAt 9 t76)) fun t77 =>
    M (e 10) fun t78 =>
    T (xv (Instr.fieldAt 128 (e 9) 1)) fun t79 =>
    T (xv (Instr.loadAt 4 t79)) fun t80 =>
    T (xv (Instr.build 128 ([(0, t78), (1, t80)]).toArray)) fun t81 =>
    N (xu (Instr.mapUpdate 101 t75 t77 t81)) w fun _ w =>
    k e w) := nr (by kernel_rfl)
theorem c56_19_s (hw : Cur w) : W Tryz.prog 87 V56 c56_19 Q e w = (∃ S : World → Prop, S w.drew ∧ drawGo (nx Tryz.prog) (takeP Tryz.prog S) mv gdP gdT 87 V56 o56_16 S (fun e w => Q .normal e w) o56_16.size true (Array.replicate o56_16.size false) [] e e w.drew) := by rw [(by kernel_rfl : c56_19 = (.region 16 o56_16 true)), W_regD']
theorem o56_14_eq : opsW N M G 87 V56 o56_14 k o56_14.toList [] e e w =
    (M (e 10) fun t55 =>
    N (builtin Builtin.len #[91] 3 ([false]).toArray ([t55]).toArray) w fun t56 w =>
    M (e 0) fun t57 =>
    N (xnil t57) w fun t58 w =>
    N (xv (Instr.fieldAt 103 t58 1)) w fun t59 w =>
    N (xv (Instr.loadAt 3 t59)) w fun t60 w =>
    N (xv (xbin BinOp.gtr 3 (Operand.tmp 56) (Operand.tmp 60) t56 t60)) w fun t61 w =>
    k (Env.p e 61 t61) w) := nr (by kernel_rfl)
theorem o56_15_eq : opsW N M G 87 V56 o56_15 k o56_15.toList [] e e w =
    (M (e 10) fun t62 =>
    M (e 10) fun t63 =>
    N (builtin Builtin.len #[91] 3 ([false]).toArray ([t63]).toArray) w fun t64 w =>
    M (e 0) fun t65 =>
    N (xnil t65) w fun t66 w =>
    N (xv (Instr.fieldAt 103 t66 1)) w fun t67 w =>
    N (xv (Instr.loadAt 3 t67)) w fun t68 w =>
    N (xv (xbin BinOp.sub 3 (Operand.tmp 64) (Operand.tmp 68) t64 t68)) w fun t69 w =>
    N (xv (Instr.sliceAt 91 t62 (some t69) none none)) w fun t70 w =>
    M t70 fun t10 =>
    N (xv (Instr.fieldAt 128 (e 9) 1)) w fun t71 w =>
    N (xu (Instr.storeAt 4 t71 (Value.bool true))) w fun _ w =>
    k (Env.p e 10 t10) w) := nr (by kernel_rfl)
theorem c56_22_s (hw : Cur w) : W Tryz.prog 87 V56 c56_22 Q e w = (opsW (nx Tryz.prog) mv gdP 87 V56 o56_15 (fun e w => Q .normal e w) o56_15.toList [] e e w) := by rw [(by kernel_rfl : c56_22 = (.region 15 o56_15 false)), W_reg]
theorem c56_21_v : opV V56 (.tmp 61) = true := by kernel_rfl
theorem c56_21_s (hw : Cur w) : W Tryz.prog 87 V56 c56_21 Q e w = (condP (ev e (.tmp 61)) (W Tryz.prog 87 V56 c56_22 Q e w) (Q .normal e w)) := by rw [(by kernel_rfl : c56_21 = .cond (.tmp 61) c56_22 Code.skip), W_cond, c56_21_v, cond_true]; simp only [W_ret, W_skip, W_exit, W_label]
theorem c56_20_s (hw : Cur w) : W Tryz.prog 87 V56 c56_20 Q e w = (opsW (nx Tryz.prog) mv gdP 87 V56 o56_14 (fun e w => W Tryz.prog 87 V56 c56_21 Q e w) o56_14.toList [] e e w) := by rw [(by kernel_rfl : c56_20 = .seq (.region 14 o56_14 false) c56_21), W_seq_reg]
theorem c56_18_s (hw : Cur w) : W Tryz.prog 87 V56 c56_18 Q e w = (W Tryz.prog 87 V56 c56_20 (seqQ (fun e w => W Tryz.prog 87 V56 c56_19 Q e w) Q) e w) := by rw [(by kernel_rfl : c56_18 = .seq c56_20 c56_19), W_seq]
theorem c56_17_s (hw : Cur w) : W Tryz.prog 87 V56 c56_17 Q e w = (∃ S : World → Prop, S w.drew ∧ drawGo (nx Tryz.prog) (takeP Tryz.prog S) mv gdP gdT 87 V56 o56_13 S (fun e w => W Tryz.prog 87 V56 c56_18 Q e w) o56_13.size true (Array.replicate o56_13.size false) [] e e w.drew) := by rw [(by kernel_rfl : c56_17 = .seq (.region 13 o56_13 true) c56_18), W_seq_regD]
theorem c56_16_s (hw : Cur w) : W Tryz.prog 87 V56 c56_16 Q e w = (∃ S : World → Prop, S w.drew ∧ drawGo (nx Tryz.prog) (takeP Tryz.prog S) mv gdP gdT 87 V56 o56_12 S (fun e w => W Tryz.prog 87 V56 c56_17 Q e w) o56_12.size true (Array.replicate o56_12.size false) [] e e w.drew) := by rw [(by kernel_rfl : c56_16 = .seq (.region 12 o56_12 true) c56_17), W_seq_regD]
theorem c56_15_s (hw : Cur w) : W Tryz.prog 87 V56 c56_15 Q e w = (opsW (nx Tryz.prog) mv gdP 87 V56 o56_11 (fun e w => W Tryz.prog 87 V56 c56_16 Q e w) o56_11.toList [] e e w) := by rw [(by kernel_rfl : c56_15 = .seq (.region 11 o56_11 false) c56_16), W_seq_reg]
theorem c56_14_s (hw : Cur w) : W Tryz.prog 87 V56 c56_14 Q e w = (W Tryz.prog 87 V56 c56_15 (blockQ 1 Q) e w) := by rw [(by kernel_rfl : c56_14 = .block 1 c56_15), W_block]
theorem c56_12_s (hw : Cur w) : W Tryz.prog 87 V56 c56_12 Q e w = (W Tryz.prog 87 V56 c56_14 (seqQ (fun e w => W Tryz.prog 87 V56 c56_13 Q e w) Q) e w) := by rw [(by kernel_rfl : c56_12 = .seq c56_14 c56_13), W_seq]
theorem c56_23_v : opV V56 (.tmp 33) = true := by kernel_rfl
theorem c56_23_s (hw : Cur w) : W Tryz.prog 87 V56 c56_23 Q e w = (condP (ev e (.tmp 33)) (Q .normal e w) (Q (.exit 0) e w)) := by rw [(by kernel_rfl : c56_23 = .cond (.tmp 33) Code.skip (Code.exit 0)), W_cond, c56_23_v, cond_true]; simp only [W_ret, W_skip, W_exit, W_label]
theorem c56_11_s (hw : Cur w) : W Tryz.prog 87 V56 c56_11 Q e w = (W Tryz.prog 87 V56 c56_23 (seqQ (fun e w => W Tryz.prog 87 V56 c56_12 Q e w) Q) e w) := by rw [(by kernel_rfl : c56_11 = .seq c56_23 c56_12), W_seq]
theorem c56_10_s (hw : Cur w) : W Tryz.prog 87 V56 c56_10 Q e w = (opsW (nx Tryz.prog) mv gdP 87 V56 o56_10 (fun e w => W Tryz.prog 87 V56 c56_11 Q e w) o56_10.toList [] e e w) := by rw [(by kernel_rfl : c56_10 = .seq (.region 10 o56_10 false) c56_11), W_seq_reg]
theorem c56_9_s (hw : Cur w) : W Tryz.prog 87 V56 c56_9 Q e w = (LoopP (fun e w k => W Tryz.prog 87 V56 c56_10 (seqQ k Q) e w) e w) := by rw [(by kernel_rfl : c56_9 = .loop c56_10), W_loop]
theorem c56_8_s (hw : Cur w) : W Tryz.prog 87 V56 c56_8 Q e w = (W Tryz.prog 87 V56 c56_9 (blockQ 0 Q) e w) := by rw [(by kernel_rfl : c56_8 = .block 0 c56_9), W_block]
theorem c56_7_s (hw : Cur w) : W Tryz.prog 87 V56 c56_7 Q e w = (opsW (nx Tryz.prog) mv gdP 87 V56 o56_9 (fun e w => W Tryz.prog 87 V56 c56_8 Q e w) o56_9.toList [] e e w) := by rw [(by kernel_rfl : c56_7 = .seq (.region 9 o56_9 false) c56_8), W_seq_reg]
theorem c56_5_s (hw : Cur w) : W Tryz.prog 87 V56 c56_5 Q e w = (W Tryz.prog 87 V56 c56_7 (seqQ (fun e w => W Tryz.prog 87 V56 c56_6 Q e w) Q) e w) := by rw [(by kernel_rfl : c56_5 = .seq c56_7 c56_6), W_seq]
theorem c56_4_s (hw : Cur w) : W Tryz.prog 87 V56 c56_4 Q e w = (opsW (nx Tryz.prog) mv gdP 87 V56 o56_8 (fun e w => W Tryz.prog 87 V56 c56_5 Q e w) o56_8.toList [] e e w) := by rw [(by kernel_rfl : c56_4 = .seq (.region 8 o56_8 false) c56_5), W_seq_reg]
theorem o56_6_eq : opsW N M G 87 V56 o56_6 k o56_6.toList [] e e w =
    (M (e 0) fun t18 =>
    N (xnil t18) w fun t19 w =>
    N (xv (Instr.fieldAt 103 t19 2)) w fun t20 w =>
    N (xv (Instr.loadAt 2 t20)) w fun t21 w =>
    N (xv (xbin BinOp.geq 2 (Operand.tmp 21) (Operand.const (Value.int IntKind.i64 1099511627776)) t21 (Value.int IntKind.i64 1099511627776))) w fun t22 w =>
    k (Env.p e 22 t22) w) := nr (by kernel_rfl)
theorem o56_7_eq : opsW N M G 87 V56 o56_7 k o56_7.toList [] e e w =
    (M (Value.int IntKind.i64 0) fun t4 =>
    M (Value.int IntKind.i64 2) fun t5 =>
    k (Env.p (Env.p e 4 t4) 5 t5) w) := nr (by kernel_rfl)
theorem c56_26_s (hw : Cur w) : W Tryz.prog 87 V56 c56_26 Q e w = (opsW (nx Tryz.prog) mv gdP 87 V56 o56_7 (fun e w => Q .ret e w) o56_7.toList [] e e w) := by rw [(by kernel_rfl : c56_26 = .seq (.region 7 o56_7 false) Code.ret), W_seq_reg]; simp only [W_ret, W_skip, W_exit, W_label]
theorem c56_25_v : opV V56 (.tmp 22) = true := by kernel_rfl
theorem c56_25_s (hw : Cur w) : W Tryz.prog 87 V56 c56_25 Q e w = (condP (ev e (.tmp 22)) (W Tryz.prog 87 V56 c56_26 Q e w) (Q .normal e w)) := by rw [(by kernel_rfl : c56_25 = .cond (.tmp 22) c56_26 Code.skip), W_cond, c56_25_v, cond_true]; simp only [W_ret, W_skip, W_exit, W_label]
theorem c56_24_s (hw : Cur w) : W Tryz.prog 87 V56 c56_24 Q e w = (opsW (nx Tryz.prog) mv gdP 87 V56 o56_6 (fun e w => W Tryz.prog 87 V56 c56_25 Q e w) o56_6.toList [] e e w) := by rw [(by kernel_rfl : c56_24 = .seq (.region 6 o56_6 false) c56_25), W_seq_reg]
theorem c56_3_s (hw : Cur w) : W Tryz.prog 87 V56 c56_3 Q e w = (W Tryz.prog 87 V56 c56_24 (seqQ (fun e w => W Tryz.prog 87 V56 c56_4 Q e w) Q) e w) := by rw [(by kernel_rfl : c56_3 = .seq c56_24 c56_4), W_seq]
theorem o56_3_eq : opsW N M G 87 V56 o56_3 k o56_3.toList [] e e w =
    (M (e 1) fun t13 =>
    N (xcall (Value.func (Fn.func 87) #[] #[]) [t13]) w fun t14 w =>
    M t14 fun t6 =>
    k (Env.p e 6 t6) w) := nr (by kernel_rfl)
theorem o56_4_eq : opsW N M G 87 V56 o56_4 k o56_4.toList [] e e w =
    (M (e 6) fun t15 =>
    N (xv (xbin BinOp.neq 36 (Operand.tmp 15) (Operand.const (Value.int IntKind.i64 0)) t15 (Value.int IntKind.i64 0))) w fun t16 w =>
    k (Env.p e 16 t16) w) := nr (by kernel_rfl)
theorem o56_5_eq : opsW N M G 87 V56 o56_5 k o56_5.toList [] e e w =
    (M (e 6) fun t17 =>
    M (Value.int IntKind.i64 0) fun t4 =>
    M t17 fun t5 =>
    k (Env.p (Env.p e 4 t4) 5 t5) w) := nr (by kernel_rfl)
theorem c56_30_s (hw : Cur w) : W Tryz.prog 87 V56 c56_30 Q e w = (opsW (nx Tryz.prog) mv gdP 87 V56 o56_5 (fun e w => Q .ret e w) o56_5.toList [] e e w) := by rw [(by kernel_rfl : c56_30 = .seq (.region 5 o56_5 false) Code.ret), W_seq_reg]; simp only [W_ret, W_skip, W_exit, W_label]
theorem c56_29_v : opV V56 (.tmp 16) = true := by kernel_rfl
theorem c56_29_s (hw : Cur w) : W Tryz.prog 87 V56 c56_29 Q e w = (condP (ev e (.tmp 16)) (W Tryz.prog 87 V56 c56_30 Q e w) (Q .normal e w)) := by rw [(by kernel_rfl : c56_29 = .cond (.tmp 16) c56_30 Code.skip), W_cond, c56_29_v, cond_true]; simp only [W_ret, W_skip, W_exit, W_label]
theorem c56_28_s (hw : Cur w) : W Tryz.prog 87 V56 c56_28 Q e w = (opsW (nx Tryz.prog) mv gdP 87 V56 o56_4 (fun e w => W Tryz.prog 87 V56 c56_29 Q e w) o56_4.toList [] e e w) := by rw [(by kernel_rfl : c56_28 = .seq (.region 4 o56_4 false) c56_29), W_seq_reg]
theorem c56_27_s (hw : Cur w) : W Tryz.prog 87 V56 c56_27 Q e w = (opsW (nx Tryz.prog) mv gdP 87 V56 o56_3 (fun e w => W Tryz.prog 87 V56 c56_28 Q e w) o56_3.toList [] e e w) := by rw [(by kernel_rfl : c56_27 = .seq (.region 3 o56_3 false) c56_28), W_seq_reg]
theorem c56_2_s (hw : Cur w) : W Tryz.prog 87 V56 c56_2 Q e w = (W Tryz.prog 87 V56 c56_27 (seqQ (fun e w => W Tryz.prog 87 V56 c56_3 Q e w) Q) e w) := by rw [(by kernel_rfl : c56_2 = .seq c56_27 c56_3), W_seq]
theorem o56_1_eq : opsW N M G 87 V56 o56_1 k o56_1.toList [] e e w =
    (M (e 0) fun t11 =>
    N (xv (xbin BinOp.eql 74 (Operand.tmp 11) (Operand.const (Value.pointer none)) t11 (Value.pointer none))) w fun t12 w =>
    k (Env.p e 12 t12) w) := nr (by kernel_rfl)
theorem o56_2_eq : opsW N M G 87 V56 o56_2 k o56_2.toList [] e e w =
    (M (Value.int IntKind.i64 0) fun t4 =>
    M (Value.int IntKind.i64 3) fun t5 =>
    k (Env.p (Env.p e 4 t4) 5 t5) w) := nr (by kernel_rfl)
theorem c56_33_s (hw : Cur w) : W Tryz.prog 87 V56 c56_33 Q e w = (opsW (nx Tryz.prog) mv gdP 87 V56 o56_2 (fun e w => Q .ret e w) o56_2.toList [] e e w) := by rw [(by kernel_rfl : c56_33 = .seq (.region 2 o56_2 false) Code.ret), W_seq_reg]; simp only [W_ret, W_skip, W_exit, W_label]
theorem c56_32_v : opV V56 (.tmp 12) = true := by kernel_rfl
theorem c56_32_s (hw : Cur w) : W Tryz.prog 87 V56 c56_32 Q e w = (condP (ev e (.tmp 12)) (W Tryz.prog 87 V56 c56_33 Q e w) (Q .normal e w)) := by rw [(by kernel_rfl : c56_32 = .cond (.tmp 12) c56_33 Code.skip), W_cond, c56_32_v, cond_true]; simp only [W_ret, W_skip, W_exit, W_label]
theorem c56_31_s (hw : Cur w) : W Tryz.prog 87 V56 c56_31 Q e w = (opsW (nx Tryz.prog) mv gdP 87 V56 o56_1 (fun e w => W Tryz.prog 87 V56 c56_32 Q e w) o56_1.toList [] e e w) := by rw [(by kernel_rfl : c56_31 = .seq (.region 1 o56_1 false) c56_32), W_seq_reg]
theorem c56_1_s (hw : Cur w) : W Tryz.prog 87 V56 c56_1 Q e w = (W Tryz.prog 87 V56 c56_31 (seqQ (fun e w => W Tryz.prog 87 V56 c56_2 Q e w) Q) e w) := by rw [(by kernel_rfl : c56_1 = .seq c56_31 c56_2), W_seq]
theorem c56_s (hw : Cur w) : W Tryz.prog 87 V56 c56 Q e w = (opsW (nx Tryz.prog) mv gdP 87 V56 o56_0 (fun e w => W Tryz.prog 87 V56 c56_1 Q e w) o56_0.toList [] e e w) := by rw [(by kernel_rfl : c56 = .seq (.region 0 o56_0 false) c56_1), W_seq_reg]
theorem call56 {a0 a1 : Value} {w : World} {R : Value → World → Prop} (h : W Tryz.prog 87 V56 c56 (retQ Tryz.prog [.tmp 4, .tmp 5] R) (argE [a0, a1]) w) : CallsN Tryz.prog 56 [a0, a1] w R :=
  callsN_of_W (c := c56) (rs := [.tmp 4, .tmp 5]) V56 Tryz.ntmps56 (by rw [Tryz.results56]) mixed Tryz.func56 (by kernel_rfl) (by kernel_rfl) (by kernel_rfl) (by kernel_rfl) (by simp) h
noncomputable def hk56 := And.intro (@o56_0_eq) <| And.intro (@o56_8_eq) <| And.intro (@o56_18_eq) <| And.intro (@c56_6_s) <| And.intro (@o56_9_eq) <| And.intro (@o56_10_eq) <| And.intro (@o56_17_eq) <| And.intro (@c56_13_s) <| And.intro (@o56_11_eq) <| And.intro (@o56_12_eq) <| And.intro (@o56_13_eq) <| And.intro (@o56_16_eq) <| And.intro (@c56_19_s) <| And.intro (@o56_14_eq) <| And.intro (@o56_15_eq) <| And.intro (@c56_22_s) <| And.intro (@c56_21_s) <| And.intro (@c56_20_s) <| And.intro (@c56_18_s) <| And.intro (@c56_17_s) <| And.intro (@c56_16_s) <| And.intro (@c56_15_s) <| And.intro (@c56_14_s) <| And.intro (@c56_12_s) <| And.intro (@c56_23_s) <| And.intro (@c56_11_s) <| And.intro (@c56_10_s) <| And.intro (@c56_9_s) <| And.intro (@c56_8_s) <| And.intro (@c56_7_s) <| And.intro (@c56_5_s) <| And.intro (@c56_4_s) <| And.intro (@o56_6_eq) <| And.intro (@o56_7_eq) <| And.intro (@c56_26_s) <| And.intro (@c56_25_s) <| And.intro (@c56_24_s) <| And.intro (@c56_3_s) <| And.intro (@o56_3_eq) <| And.intro (@o56_4_eq) <| And.intro (@o56_5_eq) <| And.intro (@c56_30_s) <| And.intro (@c56_29_s) <| And.intro (@c56_28_s) <| And.intro (@c56_27_s) <| And.intro (@c56_2_s) <| And.intro (@o56_1_eq) <| And.intro (@o56_2_eq) <| And.intro (@c56_33_s) <| And.intro (@c56_32_s) <| And.intro (@c56_31_s) <| And.intro (@c56_1_s) <| @c56_s
-- K56: ↓hk56
end
end Go.Proofs.YtgloomahpjpiiaaGreat
