/- The equations of the code of some functions, written by the printer gen.py: each is checked by the kernel. -/
import Derived.Test.YtenokheiindfkabQ0
import Derived.Test.YtenokheiindfkabCB
set_option linter.unusedVariables false
set_option linter.unusedSimpArgs false
set_option maxRecDepth 100000
namespace Go.Proofs.Ytenokheiindfkab
open Go.VW
noncomputable section
set_option linter.defProp false
variable {N : Sem Next → World → (Value → World → Prop) → Prop} {T : Sem Next → (Value → Prop) → Prop} {M : Value → (Value → Prop) → Prop} {G : Bool → ((Value → World → Prop) → Prop) → (Value → World → Prop) → World → Prop}
  {H : Bool → ((Value → Prop) → Prop) → (Value → Prop) → Prop} {S : World → Prop} {k : Env → World → Prop} {Q : Exit → Env → World → Prop} {e : Env} {w : World}
  {T2 : Nat → Sem Next → (Value → Prop) → Prop} {S2 : Nat → World → Prop}
/-! ### (*vouch/stream.Log) . Append -/
def V10 : Nat → Bool := fun i => [0, 1, 4, 5, 6, 8, 12, 16].elem i
noncomputable def c10 : Code := (Try.f10.body.getD .skip)
noncomputable def o10_0 : Array Oper := rO (cL c10)
noncomputable def c10_1 : Code := (cR c10)
noncomputable def c10_2 : Code := (cR c10_1)
noncomputable def c10_3 : Code := (cR c10_2)
noncomputable def c10_4 : Code := (cR c10_3)
noncomputable def o10_8 : Array Oper := rO (cL c10_4)
noncomputable def c10_5 : Code := (cR c10_4)
noncomputable def o10_9 : Array Oper := rO (cL c10_5)
noncomputable def c10_6 : Code := (cL c10_3)
noncomputable def o10_6 : Array Oper := rO (cL c10_6)
noncomputable def c10_7 : Code := (cR c10_6)
noncomputable def c10_8 : Code := (cL c10_7)
noncomputable def o10_7 : Array Oper := rO (cL c10_8)
noncomputable def c10_9 : Code := (cL c10_2)
noncomputable def o10_3 : Array Oper := rO (cL c10_9)
noncomputable def c10_10 : Code := (cR c10_9)
noncomputable def o10_4 : Array Oper := rO (cL c10_10)
noncomputable def c10_11 : Code := (cR c10_10)
noncomputable def c10_12 : Code := (cL c10_11)
noncomputable def o10_5 : Array Oper := rO (cL c10_12)
noncomputable def c10_13 : Code := (cL c10_1)
noncomputable def o10_1 : Array Oper := rO (cL c10_13)
noncomputable def c10_14 : Code := (cR c10_13)
noncomputable def c10_15 : Code := (cL c10_14)
noncomputable def o10_2 : Array Oper := rO (cL c10_15)
theorem o10_0_eq : opsW N M G 30 V10 o10_0 k o10_0.toList [] e e w =
    (M (Value.int IntKind.i64 0) fun t4 =>
    M (Value.int IntKind.i64 0) fun t5 =>
    k (Env.p (Env.p e 4 t4) 5 t5) w) := nr (by kernel_rfl)
theorem o10_8_eq : drawGo2 N T2 M G H 30 V10 o10_8 S2 k o10_8.size [] (Array.replicate o10_8.size false) [] e e w =
    (S2 0 w ∧ (M (e 0) fun t17 =>
    S2 1 w ∧ (M (e 0) fun t18 =>
    S2 2 w ∧ (T2 2 (xnil t18) fun t19 =>
    S2 3 w ∧ (T2 3 (xv (Instr.fieldAt 56 t19 0)) fun t20 =>
    S2 4 w ∧ (T2 4 (xv (Instr.loadAt 22 t20)) fun t21 =>
    S2 5 w ∧ (M (e 1) fun t22 =>
    N (xcall (Value.func (Fn.func 20) #[] #[]) [t22]) w fun t23 w =>
    S2 4 w ∧ (S2 3 w ∧ (S2 2 w ∧ (S2 1 w ∧ (S2 0 w ∧ (N (xv (Instr.buildSlice 22 1 ([(0, t23)]).toArray)) w fun t24 w =>
    S2 4 w ∧ (S2 3 w ∧ (S2 2 w ∧ (S2 1 w ∧ (S2 0 w ∧ (N (builtin Builtin.append #[22, 22] 22 ([false, false]).toArray ([t21, t24]).toArray) w fun t25 w =>
    S2 3 w ∧ (S2 2 w ∧ (S2 1 w ∧ (S2 0 w ∧ (S2 9 w ∧ (T2 9 (xnil t17) fun t26 =>
    S2 10 w ∧ (T2 10 (xv (Instr.fieldAt 56 t26 0)) fun t27 =>
    N (xu (Instr.storeAt 22 t27 t25)) w fun _ w =>
    S2 9 w ∧ (k e w)))))))))))))))))))))))) := nr (by kernel_rfl)
theorem o10_9_eq : opsW N M G 30 V10 o10_9 k o10_9.toList [] e e w =
    (M (e 0) fun t28 =>
    N (xcall (Value.func (Fn.func 13) #[] #[]) [t28]) w fun t29 w =>
    M t29 fun t4 =>
    M (Value.int IntKind.i64 0) fun t5 =>
    k (Env.p (Env.p e 4 t4) 5 t5) w) := nr (by kernel_rfl)
theorem c10_5_s (hw : Cur w) : W2 Try.prog 30 V10 c10_5 Q e w = (opsW (nx Try.prog) mv gdP 30 V10 o10_9 (fun e w => Q .ret e w) o10_9.toList [] e e w) := by rw [(by kernel_rfl : c10_5 = .seq (.region 9 o10_9 false) Code.ret), W2_seq_reg]; simp only [W2_ret, W2_skip, W2_exit, W2_label]
theorem c10_4_s (hw : Cur w) : W2 Try.prog 30 V10 c10_4 Q e w = (∃ S : Nat → World → Prop, drawGo2 (nx Try.prog) (fun i => takeP Try.prog (S i)) mv gdP gdT 30 V10 o10_8 S (fun e w => W2 Try.prog 30 V10 c10_5 Q e w) o10_8.size [] (Array.replicate o10_8.size false) [] e e w.drew) := by rw [(by kernel_rfl : c10_4 = .seq (.region 8 o10_8 true) c10_5), W2_seq_regD]
theorem o10_6_eq : opsW N M G 30 V10 o10_6 k o10_6.toList [] e e w =
    (M (e 0) fun t14 =>
    N (xcall (Value.func (Fn.func 13) #[] #[]) [t14]) w fun t15 w =>
    N (xv (xbin BinOp.geq 2 (Operand.tmp 15) (Operand.const (Value.int IntKind.i64 1099511627776)) t15 (Value.int IntKind.i64 1099511627776))) w fun t16 w =>
    k (Env.p e 16 t16) w) := nr (by kernel_rfl)
theorem o10_7_eq : opsW N M G 30 V10 o10_7 k o10_7.toList [] e e w =
    (M (Value.int IntKind.i64 0) fun t4 =>
    M (Value.int IntKind.i64 2) fun t5 =>
    k (Env.p (Env.p e 4 t4) 5 t5) w) := nr (by kernel_rfl)
theorem c10_8_s (hw : Cur w) : W2 Try.prog 30 V10 c10_8 Q e w = (opsW (nx Try.prog) mv gdP 30 V10 o10_7 (fun e w => Q .ret e w) o10_7.toList [] e e w) := by rw [(by kernel_rfl : c10_8 = .seq (.region 7 o10_7 false) Code.ret), W2_seq_reg]; simp only [W2_ret, W2_skip, W2_exit, W2_label]
theorem c10_7_v : opV V10 (.tmp 16) = true := by kernel_rfl
theorem c10_7_s (hw : Cur w) : W2 Try.prog 30 V10 c10_7 Q e w = (condP (ev e (.tmp 16)) (W2 Try.prog 30 V10 c10_8 Q e w) (Q .normal e w)) := by rw [(by kernel_rfl : c10_7 = .cond (.tmp 16) c10_8 Code.skip), W2_cond, c10_7_v, cond_true]; simp only [W2_ret, W2_skip, W2_exit, W2_label]
theorem c10_6_s (hw : Cur w) : W2 Try.prog 30 V10 c10_6 Q e w = (opsW (nx Try.prog) mv gdP 30 V10 o10_6 (fun e w => W2 Try.prog 30 V10 c10_7 Q e w) o10_6.toList [] e e w) := by rw [(by kernel_rfl : c10_6 = .seq (.region 6 o10_6 false) c10_7), W2_seq_reg]
theorem c10_3_s (hw : Cur w) : W2 Try.prog 30 V10 c10_3 Q e w = (W2 Try.prog 30 V10 c10_6 (seqQ (fun e w => W2 Try.prog 30 V10 c10_4 Q e w) Q) e w) := by rw [(by kernel_rfl : c10_3 = .seq c10_6 c10_4), W2_seq]
theorem o10_3_eq : opsW N M G 30 V10 o10_3 k o10_3.toList [] e e w =
    (M (e 1) fun t9 =>
    N (xcall (Value.func (Fn.func 19) #[] #[]) [t9]) w fun t10 w =>
    M t10 fun t6 =>
    k (Env.p e 6 t6) w) := nr (by kernel_rfl)
theorem o10_4_eq : opsW N M G 30 V10 o10_4 k o10_4.toList [] e e w =
    (M (e 6) fun t11 =>
    N (xv (xbin BinOp.neq 27 (Operand.tmp 11) (Operand.const (Value.int IntKind.i64 0)) t11 (Value.int IntKind.i64 0))) w fun t12 w =>
    k (Env.p e 12 t12) w) := nr (by kernel_rfl)
theorem o10_5_eq : opsW N M G 30 V10 o10_5 k o10_5.toList [] e e w =
    (M (e 6) fun t13 =>
    M (Value.int IntKind.i64 0) fun t4 =>
    M t13 fun t5 =>
    k (Env.p (Env.p e 4 t4) 5 t5) w) := nr (by kernel_rfl)
theorem c10_12_s (hw : Cur w) : W2 Try.prog 30 V10 c10_12 Q e w = (opsW (nx Try.prog) mv gdP 30 V10 o10_5 (fun e w => Q .ret e w) o10_5.toList [] e e w) := by rw [(by kernel_rfl : c10_12 = .seq (.region 5 o10_5 false) Code.ret), W2_seq_reg]; simp only [W2_ret, W2_skip, W2_exit, W2_label]
theorem c10_11_v : opV V10 (.tmp 12) = true := by kernel_rfl
theorem c10_11_s (hw : Cur w) : W2 Try.prog 30 V10 c10_11 Q e w = (condP (ev e (.tmp 12)) (W2 Try.prog 30 V10 c10_12 Q e w) (Q .normal e w)) := by rw [(by kernel_rfl : c10_11 = .cond (.tmp 12) c10_12 Code.skip), W2_cond, c10_11_v, cond_true]; simp only [W2_ret, W2_skip, W2_exit, W2_label]
theorem c10_10_s (hw : Cur w) : W2 Try.prog 30 V10 c10_10 Q e w = (opsW (nx Try.prog) mv gdP 30 V10 o10_4 (fun e w => W2 Try.prog 30 V10 c10_11 Q e w) o10_4.toList [] e e w) := by rw [(by kernel_rfl : c10_10 = .seq (.region 4 o10_4 false) c10_11), W2_seq_reg]
theorem c10_9_s (hw : Cur w) : W2 Try.prog 30 V10 c10_9 Q e w = (opsW (nx Try.prog) mv gdP 30 V10 o10_3 (fun e w => W2 Try.prog 30 V10 c10_10 Q e w) o10_3.toList [] e e w) := by rw [(by kernel_rfl : c10_9 = .seq (.region 3 o10_3 false) c10_10), W2_seq_reg]
theorem c10_2_s (hw : Cur w) : W2 Try.prog 30 V10 c10_2 Q e w = (W2 Try.prog 30 V10 c10_9 (seqQ (fun e w => W2 Try.prog 30 V10 c10_3 Q e w) Q) e w) := by rw [(by kernel_rfl : c10_2 = .seq c10_9 c10_3), W2_seq]
theorem o10_1_eq : opsW N M G 30 V10 o10_1 k o10_1.toList [] e e w =
    (M (e 0) fun t7 =>
    N (xv (xbin BinOp.eql 24 (Operand.tmp 7) (Operand.const (Value.pointer none)) t7 (Value.pointer none))) w fun t8 w =>
    k (Env.p e 8 t8) w) := nr (by kernel_rfl)
theorem o10_2_eq : opsW N M G 30 V10 o10_2 k o10_2.toList [] e e w =
    (M (Value.int IntKind.i64 0) fun t4 =>
    M (Value.int IntKind.i64 3) fun t5 =>
    k (Env.p (Env.p e 4 t4) 5 t5) w) := nr (by kernel_rfl)
theorem c10_15_s (hw : Cur w) : W2 Try.prog 30 V10 c10_15 Q e w = (opsW (nx Try.prog) mv gdP 30 V10 o10_2 (fun e w => Q .ret e w) o10_2.toList [] e e w) := by rw [(by kernel_rfl : c10_15 = .seq (.region 2 o10_2 false) Code.ret), W2_seq_reg]; simp only [W2_ret, W2_skip, W2_exit, W2_label]
theorem c10_14_v : opV V10 (.tmp 8) = true := by kernel_rfl
theorem c10_14_s (hw : Cur w) : W2 Try.prog 30 V10 c10_14 Q e w = (condP (ev e (.tmp 8)) (W2 Try.prog 30 V10 c10_15 Q e w) (Q .normal e w)) := by rw [(by kernel_rfl : c10_14 = .cond (.tmp 8) c10_15 Code.skip), W2_cond, c10_14_v, cond_true]; simp only [W2_ret, W2_skip, W2_exit, W2_label]
theorem c10_13_s (hw : Cur w) : W2 Try.prog 30 V10 c10_13 Q e w = (opsW (nx Try.prog) mv gdP 30 V10 o10_1 (fun e w => W2 Try.prog 30 V10 c10_14 Q e w) o10_1.toList [] e e w) := by rw [(by kernel_rfl : c10_13 = .seq (.region 1 o10_1 false) c10_14), W2_seq_reg]
theorem c10_1_s (hw : Cur w) : W2 Try.prog 30 V10 c10_1 Q e w = (W2 Try.prog 30 V10 c10_13 (seqQ (fun e w => W2 Try.prog 30 V10 c10_2 Q e w) Q) e w) := by rw [(by kernel_rfl : c10_1 = .seq c10_13 c10_2), W2_seq]
theorem c10_s (hw : Cur w) : W2 Try.prog 30 V10 c10 Q e w = (opsW (nx Try.prog) mv gdP 30 V10 o10_0 (fun e w => W2 Try.prog 30 V10 c10_1 Q e w) o10_0.toList [] e e w) := by rw [(by kernel_rfl : c10 = .seq (.region 0 o10_0 false) c10_1), W2_seq_reg]
theorem call10 {a0 a1 : Value} {w : World} {R : Value → World → Prop} (h : W2 Try.prog 30 V10 c10 (retQ Try.prog [.tmp 4, .tmp 5] R) (argE [a0, a1]) w) : CallsN Try.prog 10 [a0, a1] w R :=
  callsN_of_W2 (c := c10) (rs := [.tmp 4, .tmp 5]) V10 Try.ntmps10 (by rw [Try.results10]) mixed Try.func10 (by kernel_rfl) (by kernel_rfl) (by kernel_rfl) (by kernel_rfl) (by simp) h
noncomputable def hk10 := And.intro (@o10_0_eq) <| And.intro (@o10_8_eq) <| And.intro (@o10_9_eq) <| And.intro (@c10_5_s) <| And.intro (@c10_4_s) <| And.intro (@o10_6_eq) <| And.intro (@o10_7_eq) <| And.intro (@c10_8_s) <| And.intro (@c10_7_s) <| And.intro (@c10_6_s) <| And.intro (@c10_3_s) <| And.intro (@o10_3_eq) <| And.intro (@o10_4_eq) <| And.intro (@o10_5_eq) <| And.intro (@c10_12_s) <| And.intro (@c10_11_s) <| And.intro (@c10_10_s) <| And.intro (@c10_9_s) <| And.intro (@c10_2_s) <| And.intro (@o10_1_eq) <| And.intro (@o10_2_eq) <| And.intro (@c10_15_s) <| And.intro (@c10_14_s) <| And.intro (@c10_13_s) <| And.intro (@c10_1_s) <| @c10_s
-- K10: ↓hk10
end
end Go.Proofs.Ytenokheiindfkab
