/- The equations of the code of some functions, written by the printer gen.py: each is checked by the kernel. -/
import Derived.Test.YtgloomahpjpiiaaQ0
import Derived.Test.YtgloomahpjpiiaaCB
set_option linter.unusedVariables false
set_option linter.unusedSimpArgs false
set_option maxRecDepth 100000
namespace Go.Proofs.Ytgloomahpjpiiaa
open Go.VW
noncomputable section
set_option linter.defProp false
variable {N : Sem Next → World → (Value → World → Prop) → Prop} {T : Sem Next → (Value → Prop) → Prop} {M : Value → (Value → Prop) → Prop} {G : Bool → ((Value → World → Prop) → Prop) → (Value → World → Prop) → World → Prop}
  {H : Bool → ((Value → Prop) → Prop) → (Value → Prop) → Prop} {S : World → Prop} {k : Env → World → Prop} {Q : Exit → Env → World → Prop} {e : Env} {w : World}
  {T2 : Nat → Sem Next → (Value → Prop) → Prop} {S2 : Nat → World → Prop}
/-! ### (*vouch/stream.Log) . Append -/
def V38 : Nat → Bool := fun i => [0, 1, 4, 5, 6, 8, 12, 16].elem i
noncomputable def c38 : Code := (Try.f38.body.getD .skip)
noncomputable def o38_0 : Array Oper := rO (cL c38)
noncomputable def c38_1 : Code := (cR c38)
noncomputable def c38_2 : Code := (cR c38_1)
noncomputable def c38_3 : Code := (cR c38_2)
noncomputable def c38_4 : Code := (cR c38_3)
noncomputable def o38_8 : Array Oper := rO (cL c38_4)
noncomputable def c38_5 : Code := (cR c38_4)
noncomputable def o38_9 : Array Oper := rO (cL c38_5)
noncomputable def c38_6 : Code := (cL c38_3)
noncomputable def o38_6 : Array Oper := rO (cL c38_6)
noncomputable def c38_7 : Code := (cR c38_6)
noncomputable def c38_8 : Code := (cL c38_7)
noncomputable def o38_7 : Array Oper := rO (cL c38_8)
noncomputable def c38_9 : Code := (cL c38_2)
noncomputable def o38_3 : Array Oper := rO (cL c38_9)
noncomputable def c38_10 : Code := (cR c38_9)
noncomputable def o38_4 : Array Oper := rO (cL c38_10)
noncomputable def c38_11 : Code := (cR c38_10)
noncomputable def c38_12 : Code := (cL c38_11)
noncomputable def o38_5 : Array Oper := rO (cL c38_12)
noncomputable def c38_13 : Code := (cL c38_1)
noncomputable def o38_1 : Array Oper := rO (cL c38_13)
noncomputable def c38_14 : Code := (cR c38_13)
noncomputable def c38_15 : Code := (cL c38_14)
noncomputable def o38_2 : Array Oper := rO (cL c38_15)
theorem o38_0_eq : opsW N M G 30 V38 o38_0 k o38_0.toList [] e e w =
    (M (Value.int IntKind.i64 0) fun t4 =>
    M (Value.int IntKind.i64 0) fun t5 =>
    k (Env.p (Env.p e 4 t4) 5 t5) w) := nr (by kernel_rfl)
theorem o38_8_eq : drawGo2 N T2 M G H 30 V38 o38_8 S2 k o38_8.size [] (Array.replicate o38_8.size false) [] e e w =
    (S2 0 w ∧ (M (e 0) fun t17 =>
    S2 1 w ∧ (M (e 0) fun t18 =>
    S2 2 w ∧ (T2 2 (xnil t18) fun t19 =>
    S2 3 w ∧ (T2 3 (xv (Instr.fieldAt 78 t19 0)) fun t20 =>
    S2 4 w ∧ (T2 4 (xv (Instr.loadAt 76 t20)) fun t21 =>
    S2 5 w ∧ (M (e 1) fun t22 =>
    N (xcall (Value.func (Fn.func 61) #[] #[]) [t22]) w fun t23 w =>
    S2 4 w ∧ (S2 3 w ∧ (S2 2 w ∧ (S2 1 w ∧ (S2 0 w ∧ (N (xv (Instr.buildSlice 76 1 ([(0, t23)]).toArray)) w fun t24 w =>
    S2 4 w ∧ (S2 3 w ∧ (S2 2 w ∧ (S2 1 w ∧ (S2 0 w ∧ (N (builtin Builtin.append #[76, 76] 76 ([false, false]).toArray ([t21, t24]).toArray) w fun t25 w =>
    S2 3 w ∧ (S2 2 w ∧ (S2 1 w ∧ (S2 0 w ∧ (S2 9 w ∧ (T2 9 (xnil t17) fun t26 =>
    S2 10 w ∧ (T2 10 (xv (Instr.fieldAt 78 t26 0)) fun t27 =>
    N (xu (Instr.storeAt 76 t27 t25)) w fun _ w =>
    S2 9 w ∧ (k e w)))))))))))))))))))))))) := nr (by kernel_rfl)
theorem o38_9_eq : opsW N M G 30 V38 o38_9 k o38_9.toList [] e e w =
    (M (e 0) fun t28 =>
    N (xcall (Value.func (Fn.func 41) #[] #[]) [t28]) w fun t29 w =>
    M t29 fun t4 =>
    M (Value.int IntKind.i64 0) fun t5 =>
    k (Env.p (Env.p e 4 t4) 5 t5) w) := nr (by kernel_rfl)
theorem c38_5_s (hw : Cur w) : W2 Try.prog 30 V38 c38_5 Q e w = (opsW (nx Try.prog) mv gdP 30 V38 o38_9 (fun e w => Q .ret e w) o38_9.toList [] e e w) := by rw [(by kernel_rfl : c38_5 = .seq (.region 9 o38_9 false) Code.ret), W2_seq_reg]; simp only [W2_ret, W2_skip, W2_exit, W2_label]
theorem c38_4_s (hw : Cur w) : W2 Try.prog 30 V38 c38_4 Q e w = (∃ S : Nat → World → Prop, drawGo2 (nx Try.prog) (fun i => takeP Try.prog (S i)) mv gdP gdT 30 V38 o38_8 S (fun e w => W2 Try.prog 30 V38 c38_5 Q e w) o38_8.size [] (Array.replicate o38_8.size false) [] e e w.drew) := by rw [(by kernel_rfl : c38_4 = .seq (.region 8 o38_8 true) c38_5), W2_seq_regD]
theorem o38_6_eq : opsW N M G 30 V38 o38_6 k o38_6.toList [] e e w =
    (M (e 0) fun t14 =>
    N (xcall (Value.func (Fn.func 41) #[] #[]) [t14]) w fun t15 w =>
    N (xv (xbin BinOp.geq 2 (Operand.tmp 15) (Operand.const (Value.int IntKind.i64 1099511627776)) t15 (Value.int IntKind.i64 1099511627776))) w fun t16 w =>
    k (Env.p e 16 t16) w) := nr (by kernel_rfl)
theorem o38_7_eq : opsW N M G 30 V38 o38_7 k o38_7.toList [] e e w =
    (M (Value.int IntKind.i64 0) fun t4 =>
    M (Value.int IntKind.i64 2) fun t5 =>
    k (Env.p (Env.p e 4 t4) 5 t5) w) := nr (by kernel_rfl)
theorem c38_8_s (hw : Cur w) : W2 Try.prog 30 V38 c38_8 Q e w = (opsW (nx Try.prog) mv gdP 30 V38 o38_7 (fun e w => Q .ret e w) o38_7.toList [] e e w) := by rw [(by kernel_rfl : c38_8 = .seq (.region 7 o38_7 false) Code.ret), W2_seq_reg]; simp only [W2_ret, W2_skip, W2_exit, W2_label]
theorem c38_7_v : opV V38 (.tmp 16) = true := by kernel_rfl
theorem c38_7_s (hw : Cur w) : W2 Try.prog 30 V38 c38_7 Q e w = (condP (ev e (.tmp 16)) (W2 Try.prog 30 V38 c38_8 Q e w) (Q .normal e w)) := by rw [(by kernel_rfl : c38_7 = .cond (.tmp 16) c38_8 Code.skip), W2_cond, c38_7_v, cond_true]; simp only [W2_ret, W2_skip, W2_exit, W2_label]
theorem c38_6_s (hw : Cur w) : W2 Try.prog 30 V38 c38_6 Q e w = (opsW (nx Try.prog) mv gdP 30 V38 o38_6 (fun e w => W2 Try.prog 30 V38 c38_7 Q e w) o38_6.toList [] e e w) := by rw [(by kernel_rfl : c38_6 = .seq (.region 6 o38_6 false) c38_7), W2_seq_reg]
theorem c38_3_s (hw : Cur w) : W2 Try.prog 30 V38 c38_3 Q e w = (W2 Try.prog 30 V38 c38_6 (seqQ (fun e w => W2 Try.prog 30 V38 c38_4 Q e w) Q) e w) := by rw [(by kernel_rfl : c38_3 = .seq c38_6 c38_4), W2_seq]
theorem o38_3_eq : opsW N M G 30 V38 o38_3 k o38_3.toList [] e e w =
    (M (e 1) fun t9 =>
    N (xcall (Value.func (Fn.func 60) #[] #[]) [t9]) w fun t10 w =>
    M t10 fun t6 =>
    k (Env.p e 6 t6) w) := nr (by kernel_rfl)
theorem o38_4_eq : opsW N M G 30 V38 o38_4 k o38_4.toList [] e e w =
    (M (e 6) fun t11 =>
    N (xv (xbin BinOp.neq 36 (Operand.tmp 11) (Operand.const (Value.int IntKind.i64 0)) t11 (Value.int IntKind.i64 0))) w fun t12 w =>
    k (Env.p e 12 t12) w) := nr (by kernel_rfl)
theorem o38_5_eq : opsW N M G 30 V38 o38_5 k o38_5.toList [] e e w =
    (M (e 6) fun t13 =>
    M (Value.int IntKind.i64 0) fun t4 =>
    M t13 fun t5 =>
    k (Env.p (Env.p e 4 t4) 5 t5) w) := nr (by kernel_rfl)
theorem c38_12_s (hw : Cur w) : W2 Try.prog 30 V38 c38_12 Q e w = (opsW (nx Try.prog) mv gdP 30 V38 o38_5 (fun e w => Q .ret e w) o38_5.toList [] e e w) := by rw [(by kernel_rfl : c38_12 = .seq (.region 5 o38_5 false) Code.ret), W2_seq_reg]; simp only [W2_ret, W2_skip, W2_exit, W2_label]
theorem c38_11_v : opV V38 (.tmp 12) = true := by kernel_rfl
theorem c38_11_s (hw : Cur w) : W2 Try.prog 30 V38 c38_11 Q e w = (condP (ev e (.tmp 12)) (W2 Try.prog 30 V38 c38_12 Q e w) (Q .normal e w)) := by rw [(by kernel_rfl : c38_11 = .cond (.tmp 12) c38_12 Code.skip), W2_cond, c38_11_v, cond_true]; simp only [W2_ret, W2_skip, W2_exit, W2_label]
theorem c38_10_s (hw : Cur w) : W2 Try.prog 30 V38 c38_10 Q e w = (opsW (nx Try.prog) mv gdP 30 V38 o38_4 (fun e w => W2 Try.prog 30 V38 c38_11 Q e w) o38_4.toList [] e e w) := by rw [(by kernel_rfl : c38_10 = .seq (.region 4 o38_4 false) c38_11), W2_seq_reg]
theorem c38_9_s (hw : Cur w) : W2 Try.prog 30 V38 c38_9 Q e w = (opsW (nx Try.prog) mv gdP 30 V38 o38_3 (fun e w => W2 Try.prog 30 V38 c38_10 Q e w) o38_3.toList [] e e w) := by rw [(by kernel_rfl : c38_9 = .seq (.region 3 o38_3 false) c38_10), W2_seq_reg]
theorem c38_2_s (hw : Cur w) : W2 Try.prog 30 V38 c38_2 Q e w = (W2 Try.prog 30 V38 c38_9 (seqQ (fun e w => W2 Try.prog 30 V38 c38_3 Q e w) Q) e w) := by rw [(by kernel_rfl : c38_2 = .seq c38_9 c38_3), W2_seq]
theorem o38_1_eq : opsW N M G 30 V38 o38_1 k o38_1.toList [] e e w =
    (M (e 0) fun t7 =>
    N (xv (xbin BinOp.eql 62 (Operand.tmp 7) (Operand.const (Value.pointer none)) t7 (Value.pointer none))) w fun t8 w =>
    k (Env.p e 8 t8) w) := nr (by kernel_rfl)
theorem o38_2_eq : opsW N M G 30 V38 o38_2 k o38_2.toList [] e e w =
    (M (Value.int IntKind.i64 0) fun t4 =>
    M (Value.int IntKind.i64 3) fun t5 =>
    k (Env.p (Env.p e 4 t4) 5 t5) w) := nr (by kernel_rfl)
theorem c38_15_s (hw : Cur w) : W2 Try.prog 30 V38 c38_15 Q e w = (opsW (nx Try.prog) mv gdP 30 V38 o38_2 (fun e w => Q .ret e w) o38_2.toList [] e e w) := by rw [(by kernel_rfl : c38_15 = .seq (.region 2 o38_2 false) Code.ret), W2_seq_reg]; simp only [W2_ret, W2_skip, W2_exit, W2_label]
theorem c38_14_v : opV V38 (.tmp 8) = true := by kernel_rfl
theorem c38_14_s (hw : Cur w) : W2 Try.prog 30 V38 c38_14 Q e w = (condP (ev e (.tmp 8)) (W2 Try.prog 30 V38 c38_15 Q e w) (Q .normal e w)) := by rw [(by kernel_rfl : c38_14 = .cond (.tmp 8) c38_15 Code.skip), W2_cond, c38_14_v, cond_true]; simp only [W2_ret, W2_skip, W2_exit, W2_label]
theorem c38_13_s (hw : Cur w) : W2 Try.prog 30 V38 c38_13 Q e w = (opsW (nx Try.prog) mv gdP 30 V38 o38_1 (fun e w => W2 Try.prog 30 V38 c38_14 Q e w) o38_1.toList [] e e w) := by rw [(by kernel_rfl : c38_13 = .seq (.region 1 o38_1 false) c38_14), W2_seq_reg]
theorem c38_1_s (hw : Cur w) : W2 Try.prog 30 V38 c38_1 Q e w = (W2 Try.prog 30 V38 c38_13 (seqQ (fun e w => W2 Try.prog 30 V38 c38_2 Q e w) Q) e w) := by rw [(by kernel_rfl : c38_1 = .seq c38_13 c38_2), W2_seq]
theorem c38_s (hw : Cur w) : W2 Try.prog 30 V38 c38 Q e w = (opsW (nx Try.prog) mv gdP 30 V38 o38_0 (fun e w => W2 Try.prog 30 V38 c38_1 Q e w) o38_0.toList [] e e w) := by rw [(by kernel_rfl : c38 = .seq (.region 0 o38_0 false) c38_1), W2_seq_reg]
theorem call38 {a0 a1 : Value} {w : World} {R : Value → World → Prop} (h : W2 Try.prog 30 V38 c38 (retQ Try.prog [.tmp 4, .tmp 5] R) (argE [a0, a1]) w) : CallsN Try.prog 38 [a0, a1] w R :=
  callsN_of_W2 (c := c38) (rs := [.tmp 4, .tmp 5]) V38 Try.ntmps38 (by rw [Try.results38]) mixed Try.func38 (by kernel_rfl) (by kernel_rfl) (by kernel_rfl) (by kernel_rfl) (by simp) h
noncomputable def hk38 := And.intro (@o38_0_eq) <| And.intro (@o38_8_eq) <| And.intro (@o38_9_eq) <| And.intro (@c38_5_s) <| And.intro (@c38_4_s) <| And.intro (@o38_6_eq) <| And.intro (@o38_7_eq) <| And.intro (@c38_8_s) <| And.intro (@c38_7_s) <| And.intro (@c38_6_s) <| And.intro (@c38_3_s) <| And.intro (@o38_3_eq) <| And.intro (@o38_4_eq) <| And.intro (@o38_5_eq) <| And.intro (@c38_12_s) <| And.intro (@c38_11_s) <| And.intro (@c38_10_s) <| And.intro (@c38_9_s) <| And.intro (@c38_2_s) <| And.intro (@o38_1_eq) <| And.intro (@o38_2_eq) <| And.intro (@c38_15_s) <| And.intro (@c38_14_s) <| And.intro (@c38_13_s) <| And.intro (@c38_1_s) <| @c38_s
-- K38: ↓hk38
end
end Go.Proofs.Ytgloomahpjpiiaa
