/- The equations of the code of some functions, written by the printer gen.py: each is checked by the kernel. -/
import Derived.Test.YtgloomahpjpiiaaGreatQ0
import Derived.Test.YtgloomahpjpiiaaGreatCB
set_option linter.unusedVariables false
set_option linter.unusedSimpArgs false
set_option maxRecDepth 100000
namespace Go.Proofs.YtgloomahpjpiiaaGreat
open Go.VW
noncomputable section
set_option linter.defProp false
variable {N : Sem Next → World → (Value → World → Prop) → Prop} {T : Sem Next → (Value → Prop) → Prop} {M : Value → (Value → Prop) → Prop} {G : Bool → ((Value → World → Prop) → Prop) → (Value → World → Prop) → World → Prop}
  {H : Bool → ((Value → Prop) → Prop) → (Value → Prop) → Prop} {S : World → Prop} {k : Env → World → Prop} {Q : Exit → Env → World → Prop} {e : Env} {w : World}
  {T2 : Nat → Sem Next → (Value → Prop) → Prop} {S2 : Nat → World → Prop}
/-! ### (*vouch/stream.Log) . Append -/
def V57 : Nat → Bool := fun i => [0, 1, 4, 5, 6, 8, 12, 16].elem i
noncomputable def c57 : Code := (Tryz.f57.body.getD .skip)
noncomputable def o57_0 : Array Oper := rO (cL c57)
noncomputable def c57_1 : Code := (cR c57)
noncomputable def c57_2 : Code := (cR c57_1)
noncomputable def c57_3 : Code := (cR c57_2)
noncomputable def c57_4 : Code := (cR c57_3)
noncomputable def o57_8 : Array Oper := rO (cL c57_4)
noncomputable def c57_5 : Code := (cR c57_4)
noncomputable def o57_9 : Array Oper := rO (cL c57_5)
noncomputable def c57_6 : Code := (cL c57_3)
noncomputable def o57_6 : Array Oper := rO (cL c57_6)
noncomputable def c57_7 : Code := (cR c57_6)
noncomputable def c57_8 : Code := (cL c57_7)
noncomputable def o57_7 : Array Oper := rO (cL c57_8)
noncomputable def c57_9 : Code := (cL c57_2)
noncomputable def o57_3 : Array Oper := rO (cL c57_9)
noncomputable def c57_10 : Code := (cR c57_9)
noncomputable def o57_4 : Array Oper := rO (cL c57_10)
noncomputable def c57_11 : Code := (cR c57_10)
noncomputable def c57_12 : Code := (cL c57_11)
noncomputable def o57_5 : Array Oper := rO (cL c57_12)
noncomputable def c57_13 : Code := (cL c57_1)
noncomputable def o57_1 : Array Oper := rO (cL c57_13)
noncomputable def c57_14 : Code := (cR c57_13)
noncomputable def c57_15 : Code := (cL c57_14)
noncomputable def o57_2 : Array Oper := rO (cL c57_15)
theorem o57_0_eq : opsW N M G 30 V57 o57_0 k o57_0.toList [] e e w =
    (M (Value.int IntKind.i64 0) fun t4 =>
    M (Value.int IntKind.i64 0) fun t5 =>
    k (Env.p (Env.p e 4 t4) 5 t5) w) := nr (by kernel_rfl)
theorem o57_8_eq : drawGo2 N T2 M G H 30 V57 o57_8 S2 k o57_8.size [] (Array.replicate o57_8.size false) [] e e w =
    (S2 0 w ∧ (M (e 0) fun t17 =>
    S2 1 w ∧ (M (e 0) fun t18 =>
    S2 2 w ∧ (T2 2 (xnil t18) fun t19 =>
    S2 3 w ∧ (T2 3 (xv (Instr.fieldAt 106 t19 0)) fun t20 =>
    S2 4 w ∧ (T2 4 (xv (Instr.loadAt 104 t20)) fun t21 =>
    S2 5 w ∧ (M (e 1) fun t22 =>
    N (xcall (Value.func (Fn.func 90) #[] #[]) [t22]) w fun t23 w =>
    S2 4 w ∧ (S2 3 w ∧ (S2 2 w ∧ (S2 1 w ∧ (S2 0 w ∧ (N (xv (Instr.buildSlice 104 1 ([(0, t23)]).toArray)) w fun t24 w =>
    S2 4 w ∧ (S2 3 w ∧ (S2 2 w ∧ (S2 1 w ∧ (S2 0 w ∧ (N (builtin Builtin.append #[104, 104] 104 ([false, false]).toArray ([t21, t24]).toArray) w fun t25 w =>
    S2 3 w ∧ (S2 2 w ∧ (S2 1 w ∧ (S2 0 w ∧ (S2 9 w ∧ (T2 9 (xnil t17) fun t26 =>
    S2 10 w ∧ (T2 10 (xv (Instr.fieldAt 106 t26 0)) fun t27 =>
    N (xu (Instr.storeAt 104 t27 t25)) w fun _ w =>
    S2 9 w ∧ (k e w)))))))))))))))))))))))) := nr (by kernel_rfl)
theorem o57_9_eq : opsW N M G 30 V57 o57_9 k o57_9.toList [] e e w =
    (M (e 0) fun t28 =>
    N (xcall (Value.func (Fn.func 70) #[] #[]) [t28]) w fun t29 w =>
    M t29 fun t4 =>
    M (Value.int IntKind.i64 0) fun t5 =>
    k (Env.p (Env.p e 4 t4) 5 t5) w) := nr (by kernel_rfl)
theorem c57_5_s (hw : Cur w) : W2 Tryz.prog 30 V57 c57_5 Q e w = (opsW (nx Tryz.prog) mv gdP 30 V57 o57_9 (fun e w => Q .ret e w) o57_9.toList [] e e w) := by rw [(by kernel_rfl : c57_5 = .seq (.region 9 o57_9 false) Code.ret), W2_seq_reg]; simp only [W2_ret, W2_skip, W2_exit, W2_label]
theorem c57_4_s (hw : Cur w) : W2 Tryz.prog 30 V57 c57_4 Q e w = (∃ S : Nat → World → Prop, drawGo2 (nx Tryz.prog) (fun i => takeP Tryz.prog (S i)) mv gdP gdT 30 V57 o57_8 S (fun e w => W2 Tryz.prog 30 V57 c57_5 Q e w) o57_8.size [] (Array.replicate o57_8.size false) [] e e w.drew) := by rw [(by kernel_rfl : c57_4 = .seq (.region 8 o57_8 true) c57_5), W2_seq_regD]
theorem o57_6_eq : opsW N M G 30 V57 o57_6 k o57_6.toList [] e e w =
    (M (e 0) fun t14 =>
    N (xcall (Value.func (Fn.func 70) #[] #[]) [t14]) w fun t15 w =>
    N (xv (xbin BinOp.geq 2 (Operand.tmp 15) (Operand.const (Value.int IntKind.i64 1099511627776)) t15 (Value.int IntKind.i64 1099511627776))) w fun t16 w =>
    k (Env.p e 16 t16) w) := nr (by kernel_rfl)
theorem o57_7_eq : opsW N M G 30 V57 o57_7 k o57_7.toList [] e e w =
    (M (Value.int IntKind.i64 0) fun t4 =>
    M (Value.int IntKind.i64 2) fun t5 =>
    k (Env.p (Env.p e 4 t4) 5 t5) w) := nr (by kernel_rfl)
theorem c57_8_s (hw : Cur w) : W2 Tryz.prog 30 V57 c57_8 Q e w = (opsW (nx Tryz.prog) mv gdP 30 V57 o57_7 (fun e w => Q .ret e w) o57_7.toList [] e e w) := by rw [(by kernel_rfl : c57_8 = .seq (.region 7 o57_7 false) Code.ret), W2_seq_reg]; simp only [W2_ret, W2_skip, W2_exit, W2_label]
theorem c57_7_v : opV V57 (.tmp 16) = true := by kernel_rfl
theorem c57_7_s (hw : Cur w) : W2 Tryz.prog 30 V57 c57_7 Q e w = (condP (ev e (.tmp 16)) (W2 Tryz.prog 30 V57 c57_8 Q e w) (Q .normal e w)) := by rw [(by kernel_rfl : c57_7 = .cond (.tmp 16) c57_8 Code.skip), W2_cond, c57_7_v, cond_true]; simp only [W2_ret, W2_skip, W2_exit, W2_label]
theorem c57_6_s (hw : Cur w) : W2 Tryz.prog 30 V57 c57_6 Q e w = (opsW (nx Tryz.prog) mv gdP 30 V57 o57_6 (fun e w => W2 Tryz.prog 30 V57 c57_7 Q e w) o57_6.toList [] e e w) := by rw [(by kernel_rfl : c57_6 = .seq (.region 6 o57_6 false) c57_7), W2_seq_reg]
theorem c57_3_s (hw : Cur w) : W2 Tryz.prog 30 V57 c57_3 Q e w = (W2 Tryz.prog 30 V57 c57_6 (seqQ (fun e w => W2 Tryz.prog 30 V57 c57_4 Q e w) Q) e w) := by rw [(by kernel_rfl : c57_3 = .seq c57_6 c57_4), W2_seq]
theorem o57_3_eq : opsW N M G 30 V57 o57_3 k o57_3.toList [] e e w =
    (M (e 1) fun t9 =>
    N (xcall (Value.func (Fn.func 89) #[] #[]) [t9]) w fun t10 w =>
    M t10 fun t6 =>
    k (Env.p e 6 t6) w) := nr (by kernel_rfl)
theorem o57_4_eq : opsW N M G 30 V57 o57_4 k o57_4.toList [] e e w =
    (M (e 6) fun t11 =>
    N (xv (xbin BinOp.neq 36 (Operand.tmp 11) (Operand.const (Value.int IntKind.i64 0)) t11 (Value.int IntKind.i64 0))) w fun t12 w =>
    k (Env.p e 12 t12) w) := nr (by kernel_rfl)
theorem o57_5_eq : opsW N M G 30 V57 o57_5 k o57_5.toList [] e e w =
    (M (e 6) fun t13 =>
    M (Value.int IntKind.i64 0) fun t4 =>
    M t13 fun t5 =>
    k (Env.p (Env.p e 4 t4) 5 t5) w) := nr (by kernel_rfl)
theorem c57_12_s (hw : Cur w) : W2 Tryz.prog 30 V57 c57_12 Q e w = (opsW (nx Tryz.prog) mv gdP 30 V57 o57_5 (fun e w => Q .ret e w) o57_5.toList [] e e w) := by rw [(by kernel_rfl : c57_12 = .seq (.region 5 o57_5 false) Code.ret), W2_seq_reg]; simp only [W2_ret, W2_skip, W2_exit, W2_label]
theorem c57_11_v : opV V57 (.tmp 12) = true := by kernel_rfl
theorem c57_11_s (hw : Cur w) : W2 Tryz.prog 30 V57 c57_11 Q e w = (condP (ev e (.tmp 12)) (W2 Tryz.prog 30 V57 c57_12 Q e w) (Q .normal e w)) := by rw [(by kernel_rfl : c57_11 = .cond (.tmp 12) c57_12 Code.skip), W2_cond, c57_11_v, cond_true]; simp only [W2_ret, W2_skip, W2_exit, W2_label]
theorem c57_10_s (hw : Cur w) : W2 Tryz.prog 30 V57 c57_10 Q e w = (opsW (nx Tryz.prog) mv gdP 30 V57 o57_4 (fun e w => W2 Tryz.prog 30 V57 c57_11 Q e w) o57_4.toList [] e e w) := by rw [(by kernel_rfl : c57_10 = .seq (.region 4 o57_4 false) c57_11), W2_seq_reg]
theorem c57_9_s (hw : Cur w) : W2 Tryz.prog 30 V57 c57_9 Q e w = (opsW (nx Tryz.prog) mv gdP 30 V57 o57_3 (fun e w => W2 Tryz.prog 30 V57 c57_10 Q e w) o57_3.toList [] e e w) := by rw [(by kernel_rfl : c57_9 = .seq (.region 3 o57_3 false) c57_10), W2_seq_reg]
theorem c57_2_s (hw : Cur w) : W2 Tryz.prog 30 V57 c57_2 Q e w = (W2 Tryz.prog 30 V57 c57_9 (seqQ (fun e w => W2 Tryz.prog 30 V57 c57_3 Q e w) Q) e w) := by rw [(by kernel_rfl : c57_2 = .seq c57_9 c57_3), W2_seq]
theorem o57_1_eq : opsW N M G 30 V57 o57_1 k o57_1.toList [] e e w =
    (M (e 0) fun t7 =>
    N (xv (xbin BinOp.eql 76 (Operand.tmp 7) (Operand.const (Value.pointer none)) t7 (Value.pointer none))) w fun t8 w =>
    k (Env.p e 8 t8) w) := nr (by kernel_rfl)
theorem o57_2_eq : opsW N M G 30 V57 o57_2 k o57_2.toList [] e e w =
    (M (Value.int IntKind.i64 0) fun t4 =>
    M (Value.int IntKind.i64 3) fun t5 =>
    k (Env.p (Env.p e 4 t4) 5 t5) w) := nr (by kernel_rfl)
theorem c57_15_s (hw : Cur w) : W2 Tryz.prog 30 V57 c57_15 Q e w = (opsW (nx Tryz.prog) mv gdP 30 V57 o57_2 (fun e w => Q .ret e w) o57_2.toList [] e e w) := by rw [(by kernel_rfl : c57_15 = .seq (.region 2 o57_2 false) Code.ret), W2_seq_reg]; simp only [W2_ret, W2_skip, W2_exit, W2_label]
theorem c57_14_v : opV V57 (.tmp 8) = true := by kernel_rfl
theorem c57_14_s (hw : Cur w) : W2 Tryz.prog 30 V57 c57_14 Q e w = (condP (ev e (.tmp 8)) (W2 Tryz.prog 30 V57 c57_15 Q e w) (Q .normal e w)) := by rw [(by kernel_rfl : c57_14 = .cond (.tmp 8) c57_15 Code.skip), W2_cond, c57_14_v, cond_true]; simp only [W2_ret, W2_skip, W2_exit, W2_label]
theorem c57_13_s (hw : Cur w) : W2 Tryz.prog 30 V57 c57_13 Q e w = (opsW (nx Tryz.prog) mv gdP 30 V57 o57_1 (fun e w => W2 Tryz.prog 30 V57 c57_14 Q e w) o57_1.toList [] e e w) := by rw [(by kernel_rfl : c57_13 = .seq (.region 1 o57_1 false) c57_14), W2_seq_reg]
theorem c57_1_s (hw : Cur w) : W2 Tryz.prog 30 V57 c57_1 Q e w = (W2 Tryz.prog 30 V57 c57_13 (seqQ (fun e w => W2 Tryz.prog 30 V57 c57_2 Q e w) Q) e w) := by rw [(by kernel_rfl : c57_1 = .seq c57_13 c57_2), W2_seq]
theorem c57_s (hw : Cur w) : W2 Tryz.prog 30 V57 c57 Q e w = (opsW (nx Tryz.prog) mv gdP 30 V57 o57_0 (fun e w => W2 Tryz.prog 30 V57 c57_1 Q e w) o57_0.toList [] e e w) := by rw [(by kernel_rfl : c57 = .seq (.region 0 o57_0 false) c57_1), W2_seq_reg]
theorem call57 {a0 a1 : Value} {w : World} {R : Value → World → Prop} (h : W2 Tryz.prog 30 V57 c57 (retQ Tryz.prog [.tmp 4, .tmp 5] R) (argE [a0, a1]) w) : CallsN Tryz.prog 57 [a0, a1] w R :=
  callsN_of_W2 (c := c57) (rs := [.tmp 4, .tmp 5]) V57 Tryz.ntmps57 (by rw [Tryz.results57]) mixed Tryz.func57 (by kernel_rfl) (by kernel_rfl) (by kernel_rfl) (by kernel_rfl) (by simp) h
noncomputable def hk57 := And.intro (@o57_0_eq) <| And.intro (@o57_8_eq) <| And.intro (@o57_9_eq) <| And.intro (@c57_5_s) <| And.intro (@c57_4_s) <| And.intro (@o57_6_eq) <| And.intro (@o57_7_eq) <| And.intro (@c57_8_s) <| And.intro (@c57_7_s) <| And.intro (@c57_6_s) <| And.intro (@c57_3_s) <| And.intro (@o57_3_eq) <| And.intro (@o57_4_eq) <| And.intro (@o57_5_eq) <| And.intro (@c57_12_s) <| And.intro (@c57_11_s) <| And.intro (@c57_10_s) <| And.intro (@c57_9_s) <| And.intro (@c57_2_s) <| And.intro (@o57_1_eq) <| And.intro (@o57_2_eq) <| And.intro (@c57_15_s) <| And.intro (@c57_14_s) <| And.intro (@c57_13_s) <| And.intro (@c57_1_s) <| @c57_s
-- K57: ↓hk57
end
end Go.Proofs.YtgloomahpjpiiaaGreat
