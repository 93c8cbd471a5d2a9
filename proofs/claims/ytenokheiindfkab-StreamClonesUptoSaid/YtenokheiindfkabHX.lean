/- The equations of the code of some functions, written by the printer gen.py: each is checked by the kernel. -/
import Derived.Test.YtenokheiindfkabQ0
import Derived.Test.YtenokheiindfkabCE
set_option linter.unusedVariables false
set_option linter.unusedSimpArgs false
set_option maxRecDepth 100000
namespace Go.Proofs.Ytenokheiindfkab
open Go.VW
noncomputable section
set_option linter.defProp false
variable {N : Sem Next → World → (Value → World → Prop) → Prop} {T : Sem Next → (Value → Prop) → Prop} {M : Value → (Value → Prop) → Prop} {G : Bool → ((Value → World → Prop) → Prop) → (Value → World → Prop) → World → Prop}
  {H : Bool → ((Value → Prop) → Prop) → (Value → Prop) → Prop} {S : World → Prop} {k : Env → World → Prop} {Q : Exit → Env → World → Prop} {e : Env} {w : World}
  {T2 : Nat → Sem Next → (Value → Prop) → Prop} {S2 : Nat → World → Prop} {T3 : (World → Prop) → Sem Next → (Value → Prop) → Prop}
/-! ### (*vouch/vouchref06.Log) . Append -/
def V16 : Nat → Bool := fun i => [0, 1, 4, 5, 6, 7, 8, 12].elem i
noncomputable def c16 : Code := (Try.f16.body.getD .skip)
noncomputable def o16_0 : Array Oper := rO (cL c16)
noncomputable def c16_1 : Code := (cR c16)
noncomputable def o16_1 : Array Oper := rO (cL c16_1)
noncomputable def c16_2 : Code := (cR c16_1)
noncomputable def c16_3 : Code := (cR c16_2)
noncomputable def o16_4 : Array Oper := rO (cL c16_3)
noncomputable def c16_4 : Code := (cR c16_3)
noncomputable def o16_5 : Array Oper := rO (cL c16_4)
noncomputable def c16_5 : Code := (cR c16_4)
noncomputable def o16_6 : Array Oper := rO (cL c16_5)
noncomputable def c16_6 : Code := (cR c16_5)
noncomputable def o16_7 : Array Oper := rO (cL c16_6)
noncomputable def c16_7 : Code := (cR c16_6)
noncomputable def o16_8 : Array Oper := rO (cL c16_7)
noncomputable def c16_8 : Code := (cL c16_2)
noncomputable def o16_2 : Array Oper := rO (cL c16_8)
noncomputable def c16_9 : Code := (cR c16_8)
noncomputable def c16_10 : Code := (cL c16_9)
noncomputable def o16_3 : Array Oper := rO (cL c16_10)
theorem o16_0_eq : opsW N M G 36 V16 o16_0 k o16_0.toList [] e e w =
    (M (Value.int IntKind.i64 0) fun t4 =>
    M (Value.int IntKind.i64 0) fun t5 =>
    k (Env.p (Env.p e 4 t4) 5 t5) w) := nr (by kernel_rfl)
theorem o16_1_eq : opsW N M G 36 V16 o16_1 k o16_1.toList [] e e w =
    (M (e 1) fun t9 =>
    N (xcall (Value.func (Fn.func 27) #[] #[]) [t9]) w fun t10 w =>
    M t10 fun t6 =>
    k (Env.p e 6 t6) w) := nr (by kernel_rfl)
theorem o16_4_eq : opsW N M G 36 V16 o16_4 k o16_4.toList [] e e w =
    (M (Value.slice none 0 0) fun t7 =>
    k (Env.p e 7 t7) w) := nr (by kernel_rfl)
theorem o16_5_eq : opsW N M G 36 V16 o16_5 k o16_5.toList [] e e w =
    (M (e 7) fun t14 =>
    M (e 1) fun t15 =>
    N (builtin Builtin.append #[30, 30] 30 ([false, false]).toArray ([t14, t15]).toArray) w fun t16 w =>
    M t16 fun t7 =>
    k (Env.p e 7 t7) w) := nr (by kernel_rfl)
theorem o16_6_eq : opsW N M G 36 V16 o16_6 k o16_6.toList [] e e w =
    (M (e 0) fun t17 =>
    N (xnil t17) w fun t18 w =>
    N (xv (Instr.fieldAt 38 t18 0)) w fun t19 w =>
    N (xv (Instr.loadAt 36 t19)) w fun t20 w =>
    N (builtin Builtin.len #[36] 3 ([false]).toArray ([t20]).toArray) w fun t21 w =>
    N (xv (xbin BinOp.add 2 (Operand.tmp 21) (Operand.const (Value.int IntKind.i64 1)) t21 (Value.int IntKind.i64 1))) w fun t22 w =>
    M t22 fun t8 =>
    k (Env.p e 8 t8) w) := nr (by kernel_rfl)
theorem o16_7_eq : opsW N M G 36 V16 o16_7 k o16_7.toList [] e e w =
    (M (e 0) fun t23 =>
    M (e 0) fun t24 =>
    N (xnil t24) w fun t25 w =>
    N (xv (Instr.fieldAt 38 t25 0)) w fun t26 w =>
    N (xv (Instr.loadAt 36 t26)) w fun t27 w =>
    M (e 8) fun t28 =>
    M (e 7) fun t29 =>
    N (xv (Instr.build 47 ([(0, t28), (1, t29)]).toArray)) w fun t30 w =>
    N (xv (Instr.buildSlice 36 1 ([(0, t30)]).toArray)) w fun t31 w =>
    N (builtin Builtin.append #[36, 36] 36 ([false, false]).toArray ([t27, t31]).toArray) w fun t32 w =>
    N (xnil t23) w fun t33 w =>
    N (xv (Instr.fieldAt 38 t33 0)) w fun t34 w =>
    N (xu (Instr.storeAt 36 t34 t32)) w fun _ w =>
    k e w) := nr (by kernel_rfl)
theorem o16_8_eq : opsW N M G 36 V16 o16_8 k o16_8.toList [] e e w =
    (M (e 8) fun t35 =>
    M t35 fun t4 =>
    M (Value.int IntKind.i64 0) fun t5 =>
    k (Env.p (Env.p e 4 t4) 5 t5) w) := nr (by kernel_rfl)
theorem c16_7_s (hw : Cur w) : W3 Try.prog 36 V16 c16_7 Q e w = (opsW (nx Try.prog) mv gdP 36 V16 o16_8 (fun e w => Q .ret e w) o16_8.toList [] e e w) := by rw [(by kernel_rfl : c16_7 = .seq (.region 8 o16_8 false) Code.ret), W3_seq_reg]; simp only [W3_ret, W3_skip, W3_exit, W3_label]
theorem c16_6_s (hw : Cur w) : W3 Try.prog 36 V16 c16_6 Q e w = (opsW (nx Try.prog) mv gdP 36 V16 o16_7 (fun e w => W3 Try.prog 36 V16 c16_7 Q e w) o16_7.toList [] e e w) := by rw [(by kernel_rfl : c16_6 = .seq (.region 7 o16_7 false) c16_7), W3_seq_reg]
theorem c16_5_s (hw : Cur w) : W3 Try.prog 36 V16 c16_5 Q e w = (opsW (nx Try.prog) mv gdP 36 V16 o16_6 (fun e w => W3 Try.prog 36 V16 c16_6 Q e w) o16_6.toList [] e e w) := by rw [(by kernel_rfl : c16_5 = .seq (.region 6 o16_6 false) c16_6), W3_seq_reg]
theorem c16_4_s (hw : Cur w) : W3 Try.prog 36 V16 c16_4 Q e w = (opsW (nx Try.prog) mv gdP 36 V16 o16_5 (fun e w => W3 Try.prog 36 V16 c16_5 Q e w) o16_5.toList [] e e w) := by rw [(by kernel_rfl : c16_4 = .seq (.region 5 o16_5 false) c16_5), W3_seq_reg]
theorem c16_3_s (hw : Cur w) : W3 Try.prog 36 V16 c16_3 Q e w = (opsW (nx Try.prog) mv gdP 36 V16 o16_4 (fun e w => W3 Try.prog 36 V16 c16_4 Q e w) o16_4.toList [] e e w) := by rw [(by kernel_rfl : c16_3 = .seq (.region 4 o16_4 false) c16_4), W3_seq_reg]
theorem o16_2_eq : opsW N M G 36 V16 o16_2 k o16_2.toList [] e e w =
    (M (e 6) fun t11 =>
    N (xv (xbin BinOp.neq 3 (Operand.tmp 11) (Operand.const (Value.int IntKind.i64 0)) t11 (Value.int IntKind.i64 0))) w fun t12 w =>
    k (Env.p e 12 t12) w) := nr (by kernel_rfl)
theorem o16_3_eq : opsW N M G 36 V16 o16_3 k o16_3.toList [] e e w =
    (M (e 6) fun t13 =>
    M (Value.int IntKind.i64 0) fun t4 =>
    M t13 fun t5 =>
    k (Env.p (Env.p e 4 t4) 5 t5) w) := nr (by kernel_rfl)
theorem c16_10_s (hw : Cur w) : W3 Try.prog 36 V16 c16_10 Q e w = (opsW (nx Try.prog) mv gdP 36 V16 o16_3 (fun e w => Q .ret e w) o16_3.toList [] e e w) := by rw [(by kernel_rfl : c16_10 = .seq (.region 3 o16_3 false) Code.ret), W3_seq_reg]; simp only [W3_ret, W3_skip, W3_exit, W3_label]
theorem c16_9_v : opV V16 (.tmp 12) = true := by kernel_rfl
theorem c16_9_s (hw : Cur w) : W3 Try.prog 36 V16 c16_9 Q e w = (condP (ev e (.tmp 12)) (W3 Try.prog 36 V16 c16_10 Q e w) (Q .normal e w)) := by rw [(by kernel_rfl : c16_9 = .cond (.tmp 12) c16_10 Code.skip), W3_cond, c16_9_v, cond_true]; simp only [W3_ret, W3_skip, W3_exit, W3_label]
theorem c16_8_s (hw : Cur w) : W3 Try.prog 36 V16 c16_8 Q e w = (opsW (nx Try.prog) mv gdP 36 V16 o16_2 (fun e w => W3 Try.prog 36 V16 c16_9 Q e w) o16_2.toList [] e e w) := by rw [(by kernel_rfl : c16_8 = .seq (.region 2 o16_2 false) c16_9), W3_seq_reg]
theorem c16_2_s (hw : Cur w) : W3 Try.prog 36 V16 c16_2 Q e w = (W3 Try.prog 36 V16 c16_8 (seqQ (fun e w => W3 Try.prog 36 V16 c16_3 Q e w) Q) e w) := by rw [(by kernel_rfl : c16_2 = .seq c16_8 c16_3), W3_seq]
theorem c16_1_s (hw : Cur w) : W3 Try.prog 36 V16 c16_1 Q e w = (opsW (nx Try.prog) mv gdP 36 V16 o16_1 (fun e w => W3 Try.prog 36 V16 c16_2 Q e w) o16_1.toList [] e e w) := by rw [(by kernel_rfl : c16_1 = .seq (.region 1 o16_1 false) c16_2), W3_seq_reg]
theorem c16_s (hw : Cur w) : W3 Try.prog 36 V16 c16 Q e w = (opsW (nx Try.prog) mv gdP 36 V16 o16_0 (fun e w => W3 Try.prog 36 V16 c16_1 Q e w) o16_0.toList [] e e w) := by rw [(by kernel_rfl : c16 = .seq (.region 0 o16_0 false) c16_1), W3_seq_reg]
theorem call16 {a0 a1 : Value} {w : World} {R : Value → World → Prop} (h : W3 Try.prog 36 V16 c16 (retQ Try.prog [.tmp 4, .tmp 5] R) (argE [a0, a1]) w) : CallsN Try.prog 16 [a0, a1] w R :=
  callsN_of_W3 (c := c16) (rs := [.tmp 4, .tmp 5]) V16 Try.ntmps16 (by rw [Try.results16]) mixed Try.func16 (by kernel_rfl) (by kernel_rfl) (by kernel_rfl) (by kernel_rfl) (by simp) h
noncomputable def hk16 := And.intro (@o16_0_eq) <| And.intro (@o16_1_eq) <| And.intro (@o16_4_eq) <| And.intro (@o16_5_eq) <| And.intro (@o16_6_eq) <| And.intro (@o16_7_eq) <| And.intro (@o16_8_eq) <| And.intro (@c16_7_s) <| And.intro (@c16_6_s) <| And.intro (@c16_5_s) <| And.intro (@c16_4_s) <| And.intro (@c16_3_s) <| And.intro (@o16_2_eq) <| And.intro (@o16_3_eq) <| And.intro (@c16_10_s) <| And.intro (@c16_9_s) <| And.intro (@c16_8_s) <| And.intro (@c16_2_s) <| And.intro (@c16_1_s) <| @c16_s
-- K16: ↓hk16
/-! ### (*vouch/vouchref06.Log) . From -/
def V25 : Nat → Bool := fun i => [0, 1, 2, 6, 7, 8, 21, 33].elem i
noncomputable def c25 : Code := (Try.f25.body.getD .skip)
noncomputable def o25_0 : Array Oper := rO (cL c25)
noncomputable def c25_1 : Code := (cR c25)
noncomputable def o25_1 : Array Oper := rO (cL c25_1)
noncomputable def c25_2 : Code := (cR c25_1)
noncomputable def c25_3 : Code := (cR c25_2)
noncomputable def o25_7 : Array Oper := rO (cL c25_3)
noncomputable def c25_4 : Code := (cL c25_2)
noncomputable def o25_2 : Array Oper := rO (cL c25_4)
noncomputable def c25_5 : Code := (cR c25_4)
noncomputable def c25_6 : Code := (cL c25_5)
noncomputable def c25_7 : Code := (cL c25_6)
noncomputable def c25_8 : Code := (cR c25_7)
noncomputable def c25_9 : Code := (cR c25_8)
noncomputable def o25_4 : Array Oper := rO c25_9
noncomputable def c25_10 : Code := (cL c25_8)
noncomputable def c25_11 : Code := (cL c25_10)
noncomputable def o25_5 : Array Oper := rO (cL c25_11)
noncomputable def c25_12 : Code := (cR c25_11)
noncomputable def c25_13 : Code := (cL c25_12)
noncomputable def o25_6 : Array Oper := rO c25_13
noncomputable def c25_14 : Code := (cL c25_7)
noncomputable def o25_3 : Array Oper := rO (cL c25_14)
noncomputable def c25_15 : Code := (cR c25_14)
theorem o25_0_eq : opsW N M G 45 V25 o25_0 k o25_0.toList [] e e w =
    (M (Value.slice none 0 0) fun t6 =>
    k (Env.p e 6 t6) w) := nr (by kernel_rfl)
theorem o25_1_eq : opsW N M G 45 V25 o25_1 k o25_1.toList [] e e w =
    (M (Value.slice none 0 0) fun t7 =>
    k (Env.p e 7 t7) w) := nr (by kernel_rfl)
theorem o25_7_eq : opsW N M G 45 V25 o25_7 k o25_7.toList [] e e w =
    (M (e 7) fun t44 =>
    M t44 fun t6 =>
    k (Env.p e 6 t6) w) := nr (by kernel_rfl)
theorem c25_3_s (hw : Cur w) : W3 Try.prog 45 V25 c25_3 Q e w = (opsW (nx Try.prog) mv gdP 45 V25 o25_7 (fun e w => Q .ret e w) o25_7.toList [] e e w) := by rw [(by kernel_rfl : c25_3 = .seq (.region 7 o25_7 false) Code.ret), W3_seq_reg]; simp only [W3_ret, W3_skip, W3_exit, W3_label]
theorem o25_2_eq : opsW N M G 45 V25 o25_2 k o25_2.toList [] e e w =
    (M (Value.int IntKind.i64 0) fun t8 =>
    k (Env.p e 8 t8) w) := nr (by kernel_rfl)
theorem o25_4_eq : opsW N M G 45 V25 o25_4 k o25_4.toList [] e e w =
    (M (e 8) fun t22 =>
    N (xv (xbin BinOp.add 3 (Operand.tmp 22) (Operand.const (Value.int IntKind.i64 1)) t22 (Value.int IntKind.i64 1))) w fun t23 w =>
    M t23 fun t8 =>
    k (Env.p e 8 t8) w) := nr (by kernel_rfl)
theorem c25_9_s (hw : Cur w) : W3 Try.prog 45 V25 c25_9 Q e w = (opsW (nx Try.prog) mv gdP 45 V25 o25_4 (fun e w => Q .normal e w) o25_4.toList [] e e w) := by rw [(by kernel_rfl : c25_9 = (.region 4 o25_4 false)), W3_reg]
theorem o25_5_eq : opsW N M G 45 V25 o25_5 k o25_5.toList [] e e w =
    (M (e 0) fun t24 =>
    N (xnil t24) w fun t25 w =>
    N (xv (Instr.fieldAt 38 t25 0)) w fun t26 w =>
    N (xv (Instr.loadAt 36 t26)) w fun t27 w =>
    M (e 8) fun t28 =>
    N (xv (Instr.indexAt 36 t27 t28)) w fun t29 w =>
    N (xv (Instr.fieldAt 47 t29 0)) w fun t30 w =>
    N (xv (Instr.loadAt 2 t30)) w fun t31 w =>
    M (e 1) fun t32 =>
    N (xv (xbin BinOp.geq 2 (Operand.tmp 31) (Operand.tmp 32) t31 t32)) w fun t33 w =>
    k (Env.p e 33 t33) w) := nr (by kernel_rfl)
theorem o25_6_eq : opsW N M G 45 V25 o25_6 k o25_6.toList [] e e w =
    (M (e 7) fun t34 =>
    M (e 0) fun t35 =>
    N (xnil t35) w fun t36 w =>
    N (xv (Instr.fieldAt 38 t36 0)) w fun t37 w =>
    N (xv (Instr.loadAt 36 t37)) w fun t38 w =>
    M (e 8) fun t39 =>
    N (xv (Instr.indexAt 36 t38 t39)) w fun t40 w =>
    N (xv (Instr.loadAt 47 t40)) w fun t41 w =>
    N (xv (Instr.buildSlice 36 1 ([(0, t41)]).toArray)) w fun t42 w =>
    N (builtin Builtin.append #[36, 36] 36 ([false, false]).toArray ([t34, t42]).toArray) w fun t43 w =>
    M t43 fun t7 =>
    k (Env.p e 7 t7) w) := nr (by kernel_rfl)
theorem c25_13_s (hw : Cur w) : W3 Try.prog 45 V25 c25_13 Q e w = (opsW (nx Try.prog) mv gdP 45 V25 o25_6 (fun e w => Q .normal e w) o25_6.toList [] e e w) := by rw [(by kernel_rfl : c25_13 = (.region 6 o25_6 false)), W3_reg]
theorem c25_12_v : opV V25 (.tmp 33) = true := by kernel_rfl
theorem c25_12_s (hw : Cur w) : W3 Try.prog 45 V25 c25_12 Q e w = (condP (ev e (.tmp 33)) (W3 Try.prog 45 V25 c25_13 Q e w) (Q .normal e w)) := by rw [(by kernel_rfl : c25_12 = .cond (.tmp 33) c25_13 Code.skip), W3_cond, c25_12_v, cond_true]; simp only [W3_ret, W3_skip, W3_exit, W3_label]
theorem c25_11_s (hw : Cur w) : W3 Try.prog 45 V25 c25_11 Q e w = (opsW (nx Try.prog) mv gdP 45 V25 o25_5 (fun e w => W3 Try.prog 45 V25 c25_12 Q e w) o25_5.toList [] e e w) := by rw [(by kernel_rfl : c25_11 = .seq (.region 5 o25_5 false) c25_12), W3_seq_reg]
theorem c25_10_s (hw : Cur w) : W3 Try.prog 45 V25 c25_10 Q e w = (W3 Try.prog 45 V25 c25_11 (blockQ 1 Q) e w) := by rw [(by kernel_rfl : c25_10 = .block 1 c25_11), W3_block]
theorem c25_8_s (hw : Cur w) : W3 Try.prog 45 V25 c25_8 Q e w = (W3 Try.prog 45 V25 c25_10 (seqQ (fun e w => W3 Try.prog 45 V25 c25_9 Q e w) Q) e w) := by rw [(by kernel_rfl : c25_8 = .seq c25_10 c25_9), W3_seq]
theorem o25_3_eq : opsW N M G 45 V25 o25_3 k o25_3.toList [] e e w =
    (M (e 8) fun t9 =>
    M (e 0) fun t10 =>
    N (xnil t10) w fun t11 w =>
    N (xv (Instr.fieldAt 38 t11 0)) w fun t12 w =>
    N (xv (Instr.loadAt 36 t12)) w fun t13 w =>
    N (builtin Builtin.len #[36] 3 ([false]).toArray ([t13]).toArray) w fun t14 w =>
    N (xv (xbin BinOp.lss 3 (Operand.tmp 9) (Operand.tmp 14) t9 t14)) w fun t15 w =>
    M t15 fun t16 =>
    G (isB t16 true) (fun K => M (e 7) fun v => K v w) (fun t17 w =>
    G (isB t16 true) (fun K => N (builtin Builtin.len #[36] 3 ([false]).toArray ([t17]).toArray) w K) (fun t18 w =>
    G (isB t16 true) (fun K => M (e 2) fun v => K v w) (fun t19 w =>
    G (isB t16 true) (fun K => N (xv (xbin BinOp.lss 3 (Operand.tmp 18) (Operand.tmp 19) t18 t19)) w K) (fun t20 w =>
    N (xpick t16 t20 (Value.bool false)) w fun t21 w =>
    k (Env.p e 21 t21) w) w) w) w) w) := nr (by kernel_rfl)
theorem c25_15_v : opV V25 (.tmp 21) = true := by kernel_rfl
theorem c25_15_s (hw : Cur w) : W3 Try.prog 45 V25 c25_15 Q e w = (condP (ev e (.tmp 21)) (Q .normal e w) (Q (.exit 0) e w)) := by rw [(by kernel_rfl : c25_15 = .cond (.tmp 21) Code.skip (Code.exit 0)), W3_cond, c25_15_v, cond_true]; simp only [W3_ret, W3_skip, W3_exit, W3_label]
theorem c25_14_s (hw : Cur w) : W3 Try.prog 45 V25 c25_14 Q e w = (opsW (nx Try.prog) mv gdP 45 V25 o25_3 (fun e w => W3 Try.prog 45 V25 c25_15 Q e w) o25_3.toList [] e e w) := by rw [(by kernel_rfl : c25_14 = .seq (.region 3 o25_3 false) c25_15), W3_seq_reg]
theorem c25_7_s (hw : Cur w) : W3 Try.prog 45 V25 c25_7 Q e w = (W3 Try.prog 45 V25 c25_14 (seqQ (fun e w => W3 Try.prog 45 V25 c25_8 Q e w) Q) e w) := by rw [(by kernel_rfl : c25_7 = .seq c25_14 c25_8), W3_seq]
theorem c25_6_s (hw : Cur w) : W3 Try.prog 45 V25 c25_6 Q e w = (LoopP (fun e w k => W3 Try.prog 45 V25 c25_7 (seqQ k Q) e w) e w) := by rw [(by kernel_rfl : c25_6 = .loop c25_7), W3_loop]
theorem c25_5_s (hw : Cur w) : W3 Try.prog 45 V25 c25_5 Q e w = (W3 Try.prog 45 V25 c25_6 (blockQ 0 Q) e w) := by rw [(by kernel_rfl : c25_5 = .block 0 c25_6), W3_block]
theorem c25_4_s (hw : Cur w) : W3 Try.prog 45 V25 c25_4 Q e w = (opsW (nx Try.prog) mv gdP 45 V25 o25_2 (fun e w => W3 Try.prog 45 V25 c25_5 Q e w) o25_2.toList [] e e w) := by rw [(by kernel_rfl : c25_4 = .seq (.region 2 o25_2 false) c25_5), W3_seq_reg]
theorem c25_2_s (hw : Cur w) : W3 Try.prog 45 V25 c25_2 Q e w = (W3 Try.prog 45 V25 c25_4 (seqQ (fun e w => W3 Try.prog 45 V25 c25_3 Q e w) Q) e w) := by rw [(by kernel_rfl : c25_2 = .seq c25_4 c25_3), W3_seq]
theorem c25_1_s (hw : Cur w) : W3 Try.prog 45 V25 c25_1 Q e w = (opsW (nx Try.prog) mv gdP 45 V25 o25_1 (fun e w => W3 Try.prog 45 V25 c25_2 Q e w) o25_1.toList [] e e w) := by rw [(by kernel_rfl : c25_1 = .seq (.region 1 o25_1 false) c25_2), W3_seq_reg]
theorem c25_s (hw : Cur w) : W3 Try.prog 45 V25 c25 Q e w = (opsW (nx Try.prog) mv gdP 45 V25 o25_0 (fun e w => W3 Try.prog 45 V25 c25_1 Q e w) o25_0.toList [] e e w) := by rw [(by kernel_rfl : c25 = .seq (.region 0 o25_0 false) c25_1), W3_seq_reg]
theorem call25 {a0 a1 a2 : Value} {w : World} {R : Value → World → Prop} (h : W3 Try.prog 45 V25 c25 (retQ Try.prog [.tmp 6] R) (argE [a0, a1, a2]) w) : CallsN Try.prog 25 [a0, a1, a2] w R :=
  callsN_of_W3 (c := c25) (rs := [.tmp 6]) V25 Try.ntmps25 (by rw [Try.results25]) mixed Try.func25 (by kernel_rfl) (by kernel_rfl) (by kernel_rfl) (by kernel_rfl) (by simp) h
noncomputable def hk25 := And.intro (@o25_0_eq) <| And.intro (@o25_1_eq) <| And.intro (@o25_7_eq) <| And.intro (@c25_3_s) <| And.intro (@o25_2_eq) <| And.intro (@o25_4_eq) <| And.intro (@c25_9_s) <| And.intro (@o25_5_eq) <| And.intro (@o25_6_eq) <| And.intro (@c25_13_s) <| And.intro (@c25_12_s) <| And.intro (@c25_11_s) <| And.intro (@c25_10_s) <| And.intro (@c25_8_s) <| And.intro (@o25_3_eq) <| And.intro (@c25_15_s) <| And.intro (@c25_14_s) <| And.intro (@c25_7_s) <| And.intro (@c25_6_s) <| And.intro (@c25_5_s) <| And.intro (@c25_4_s) <| And.intro (@c25_2_s) <| And.intro (@c25_1_s) <| @c25_s
-- K25: ↓hk25
/-! ### (*vouch/vouchref06.Log) . First -/
def V26 : Nat → Bool := fun i => [0, 1, 2, 6, 7, 8, 15, 38].elem i
noncomputable def c26 : Code := (Try.f26.body.getD .skip)
noncomputable def o26_0 : Array Oper := rO (cL c26)
noncomputable def c26_1 : Code := (cR c26)
noncomputable def c26_2 : Code := (cR c26_1)
noncomputable def o26_6 : Array Oper := rO (cL c26_2)
noncomputable def c26_3 : Code := (cL c26_1)
noncomputable def o26_1 : Array Oper := rO (cL c26_3)
noncomputable def c26_4 : Code := (cR c26_3)
noncomputable def c26_5 : Code := (cL c26_4)
noncomputable def c26_6 : Code := (cL c26_5)
noncomputable def c26_7 : Code := (cR c26_6)
noncomputable def c26_8 : Code := (cR c26_7)
noncomputable def o26_3 : Array Oper := rO c26_8
noncomputable def c26_9 : Code := (cL c26_7)
noncomputable def c26_10 : Code := (cL c26_9)
noncomputable def o26_4 : Array Oper := rO (cL c26_10)
noncomputable def c26_11 : Code := (cR c26_10)
noncomputable def c26_12 : Code := (cL c26_11)
noncomputable def o26_5 : Array Oper := rO (cL c26_12)
noncomputable def c26_13 : Code := (cL c26_6)
noncomputable def o26_2 : Array Oper := rO (cL c26_13)
noncomputable def c26_14 : Code := (cR c26_13)
theorem o26_0_eq : opsW N M G 47 V26 o26_0 k o26_0.toList [] e e w =
    (M (Value.int IntKind.i64 0) fun t6 =>
    M (Value.bool false) fun t7 =>
    k (Env.p (Env.p e 6 t6) 7 t7) w) := nr (by kernel_rfl)
theorem o26_6_eq : opsW N M G 47 V26 o26_6 k o26_6.toList [] e e w =
    (M (Value.int IntKind.i64 0) fun t6 =>
    M (Value.bool false) fun t7 =>
    k (Env.p (Env.p e 6 t6) 7 t7) w) := nr (by kernel_rfl)
theorem c26_2_s (hw : Cur w) : W3 Try.prog 47 V26 c26_2 Q e w = (opsW (nx Try.prog) mv gdP 47 V26 o26_6 (fun e w => Q .ret e w) o26_6.toList [] e e w) := by rw [(by kernel_rfl : c26_2 = .seq (.region 6 o26_6 false) Code.ret), W3_seq_reg]; simp only [W3_ret, W3_skip, W3_exit, W3_label]
theorem o26_1_eq : opsW N M G 47 V26 o26_1 k o26_1.toList [] e e w =
    (M (Value.int IntKind.i64 0) fun t8 =>
    k (Env.p e 8 t8) w) := nr (by kernel_rfl)
theorem o26_3_eq : opsW N M G 47 V26 o26_3 k o26_3.toList [] e e w =
    (M (e 8) fun t16 =>
    N (xv (xbin BinOp.add 3 (Operand.tmp 16) (Operand.const (Value.int IntKind.i64 1)) t16 (Value.int IntKind.i64 1))) w fun t17 w =>
    M t17 fun t8 =>
    k (Env.p e 8 t8) w) := nr (by kernel_rfl)
theorem c26_8_s (hw : Cur w) : W3 Try.prog 47 V26 c26_8 Q e w = (opsW (nx Try.prog) mv gdP 47 V26 o26_3 (fun e w => Q .normal e w) o26_3.toList [] e e w) := by rw [(by kernel_rfl : c26_8 = (.region 3 o26_3 false)), W3_reg]
theorem o26_4_eq : opsW N M G 47 V26 o26_4 k o26_4.toList [] e e w =
    (M (e 0) fun t18 =>
    N (xnil t18) w fun t19 w =>
    N (xv (Instr.fieldAt 38 t19 0)) w fun t20 w =>
    N (xv (Instr.loadAt 36 t20)) w fun t21 w =>
    M (e 8) fun t22 =>
    N (xv (Instr.indexAt 36 t21 t22)) w fun t23 w =>
    N (xv (Instr.fieldAt 47 t23 0)) w fun t24 w =>
    N (xv (Instr.loadAt 2 t24)) w fun t25 w =>
    M (e 2) fun t26 =>
    N (xv (xbin BinOp.gtr 2 (Operand.tmp 25) (Operand.tmp 26) t25 t26)) w fun t27 w =>
    M t27 fun t28 =>
    G (isB t28 true) (fun K => M (e 0) fun v => K v w) (fun t29 w =>
    G (isB t28 true) (fun K => N (xnil t29) w K) (fun t30 w =>
    G (isB t28 true) (fun K => N (xv (Instr.fieldAt 38 t30 0)) w K) (fun t31 w =>
    G (isB t28 true) (fun K => N (xv (Instr.loadAt 36 t31)) w K) (fun t32 w =>
    G (isB t28 true) (fun K => M (e 8) fun v => K v w) (fun t33 w =>
    G (isB t28 true) (fun K => N (xv (Instr.indexAt 36 t32 t33)) w K) (fun t34 w =>
    G (isB t28 true) (fun K => N (xv (Instr.loadAt 47 t34)) w K) (fun t35 w =>
    G (isB t28 true) (fun K => M (e 1) fun v => K v w) (fun t36 w =>
    G (isB t28 true) (fun K => N (xcall (Value.func (Fn.func 33) #[] #[]) [t35, t36]) w K) (fun t37 w =>
    N (xpick t28 t37 (Value.bool false)) w fun t38 w =>
    k (Env.p e 38 t38) w) w) w) w) w) w) w) w) w) w) := nr (by kernel_rfl)
theorem o26_5_eq : opsW N M G 47 V26 o26_5 k o26_5.toList [] e e w =
    (M (e 0) fun t39 =>
    N (xnil t39) w fun t40 w =>
    N (xv (Instr.fieldAt 38 t40 0)) w fun t41 w =>
    N (xv (Instr.loadAt 36 t41)) w fun t42 w =>
    M (e 8) fun t43 =>
    N (xv (Instr.indexAt 36 t42 t43)) w fun t44 w =>
    N (xv (Instr.fieldAt 47 t44 0)) w fun t45 w =>
    N (xv (Instr.loadAt 2 t45)) w fun t46 w =>
    M t46 fun t6 =>
    M (Value.bool true) fun t7 =>
    k (Env.p (Env.p e 6 t6) 7 t7) w) := nr (by kernel_rfl)
theorem c26_12_s (hw : Cur w) : W3 Try.prog 47 V26 c26_12 Q e w = (opsW (nx Try.prog) mv gdP 47 V26 o26_5 (fun e w => Q .ret e w) o26_5.toList [] e e w) := by rw [(by kernel_rfl : c26_12 = .seq (.region 5 o26_5 false) Code.ret), W3_seq_reg]; simp only [W3_ret, W3_skip, W3_exit, W3_label]
theorem c26_11_v : opV V26 (.tmp 38) = true := by kernel_rfl
theorem c26_11_s (hw : Cur w) : W3 Try.prog 47 V26 c26_11 Q e w = (condP (ev e (.tmp 38)) (W3 Try.prog 47 V26 c26_12 Q e w) (Q .normal e w)) := by rw [(by kernel_rfl : c26_11 = .cond (.tmp 38) c26_12 Code.skip), W3_cond, c26_11_v, cond_true]; simp only [W3_ret, W3_skip, W3_exit, W3_label]
theorem c26_10_s (hw : Cur w) : W3 Try.prog 47 V26 c26_10 Q e w = (opsW (nx Try.prog) mv gdP 47 V26 o26_4 (fun e w => W3 Try.prog 47 V26 c26_11 Q e w) o26_4.toList [] e e w) := by rw [(by kernel_rfl : c26_10 = .seq (.region 4 o26_4 false) c26_11), W3_seq_reg]
theorem c26_9_s (hw : Cur w) : W3 Try.prog 47 V26 c26_9 Q e w = (W3 Try.prog 47 V26 c26_10 (blockQ 1 Q) e w) := by rw [(by kernel_rfl : c26_9 = .block 1 c26_10), W3_block]
theorem c26_7_s (hw : Cur w) : W3 Try.prog 47 V26 c26_7 Q e w = (W3 Try.prog 47 V26 c26_9 (seqQ (fun e w => W3 Try.prog 47 V26 c26_8 Q e w) Q) e w) := by rw [(by kernel_rfl : c26_7 = .seq c26_9 c26_8), W3_seq]
theorem o26_2_eq : opsW N M G 47 V26 o26_2 k o26_2.toList [] e e w =
    (M (e 8) fun t9 =>
    M (e 0) fun t10 =>
    N (xnil t10) w fun t11 w =>
    N (xv (Instr.fieldAt 38 t11 0)) w fun t12 w =>
    N (xv (Instr.loadAt 36 t12)) w fun t13 w =>
    N (builtin Builtin.len #[36] 3 ([false]).toArray ([t13]).toArray) w fun t14 w =>
    N (xv (xbin BinOp.lss 3 (Operand.tmp 9) (Operand.tmp 14) t9 t14)) w fun t15 w =>
    k (Env.p e 15 t15) w) := nr (by kernel_rfl)
theorem c26_14_v : opV V26 (.tmp 15) = true := by kernel_rfl
theorem c26_14_s (hw : Cur w) : W3 Try.prog 47 V26 c26_14 Q e w = (condP (ev e (.tmp 15)) (Q .normal e w) (Q (.exit 0) e w)) := by rw [(by kernel_rfl : c26_14 = .cond (.tmp 15) Code.skip (Code.exit 0)), W3_cond, c26_14_v, cond_true]; simp only [W3_ret, W3_skip, W3_exit, W3_label]
theorem c26_13_s (hw : Cur w) : W3 Try.prog 47 V26 c26_13 Q e w = (opsW (nx Try.prog) mv gdP 47 V26 o26_2 (fun e w => W3 Try.prog 47 V26 c26_14 Q e w) o26_2.toList [] e e w) := by rw [(by kernel_rfl : c26_13 = .seq (.region 2 o26_2 false) c26_14), W3_seq_reg]
theorem c26_6_s (hw : Cur w) : W3 Try.prog 47 V26 c26_6 Q e w = (W3 Try.prog 47 V26 c26_13 (seqQ (fun e w => W3 Try.prog 47 V26 c26_7 Q e w) Q) e w) := by rw [(by kernel_rfl : c26_6 = .seq c26_13 c26_7), W3_seq]
theorem c26_5_s (hw : Cur w) : W3 Try.prog 47 V26 c26_5 Q e w = (LoopP (fun e w k => W3 Try.prog 47 V26 c26_6 (seqQ k Q) e w) e w) := by rw [(by kernel_rfl : c26_5 = .loop c26_6), W3_loop]
theorem c26_4_s (hw : Cur w) : W3 Try.prog 47 V26 c26_4 Q e w = (W3 Try.prog 47 V26 c26_5 (blockQ 0 Q) e w) := by rw [(by kernel_rfl : c26_4 = .block 0 c26_5), W3_block]
theorem c26_3_s (hw : Cur w) : W3 Try.prog 47 V26 c26_3 Q e w = (opsW (nx Try.prog) mv gdP 47 V26 o26_1 (fun e w => W3 Try.prog 47 V26 c26_4 Q e w) o26_1.toList [] e e w) := by rw [(by kernel_rfl : c26_3 = .seq (.region 1 o26_1 false) c26_4), W3_seq_reg]
theorem c26_1_s (hw : Cur w) : W3 Try.prog 47 V26 c26_1 Q e w = (W3 Try.prog 47 V26 c26_3 (seqQ (fun e w => W3 Try.prog 47 V26 c26_2 Q e w) Q) e w) := by rw [(by kernel_rfl : c26_1 = .seq c26_3 c26_2), W3_seq]
theorem c26_s (hw : Cur w) : W3 Try.prog 47 V26 c26 Q e w = (opsW (nx Try.prog) mv gdP 47 V26 o26_0 (fun e w => W3 Try.prog 47 V26 c26_1 Q e w) o26_0.toList [] e e w) := by rw [(by kernel_rfl : c26 = .seq (.region 0 o26_0 false) c26_1), W3_seq_reg]
theorem call26 {a0 a1 a2 : Value} {w : World} {R : Value → World → Prop} (h : W3 Try.prog 47 V26 c26 (retQ Try.prog [.tmp 6, .tmp 7] R) (argE [a0, a1, a2]) w) : CallsN Try.prog 26 [a0, a1, a2] w R :=
  callsN_of_W3 (c := c26) (rs := [.tmp 6, .tmp 7]) V26 Try.ntmps26 (by rw [Try.results26]) mixed Try.func26 (by kernel_rfl) (by kernel_rfl) (by kernel_rfl) (by kernel_rfl) (by simp) h
noncomputable def hk26 := And.intro (@o26_0_eq) <| And.intro (@o26_6_eq) <| And.intro (@c26_2_s) <| And.intro (@o26_1_eq) <| And.intro (@o26_3_eq) <| And.intro (@c26_8_s) <| And.intro (@o26_4_eq) <| And.intro (@o26_5_eq) <| And.intro (@c26_12_s) <| And.intro (@c26_11_s) <| And.intro (@c26_10_s) <| And.intro (@c26_9_s) <| And.intro (@c26_7_s) <| And.intro (@o26_2_eq) <| And.intro (@c26_14_s) <| And.intro (@c26_13_s) <| And.intro (@c26_6_s) <| And.intro (@c26_5_s) <| And.intro (@c26_4_s) <| And.intro (@c26_3_s) <| And.intro (@c26_1_s) <| @c26_s
-- K26: ↓hk26
/-! ### vouch/vouchref06.Has -/
def V33 : Nat → Bool := fun i => [0, 1, 2, 4, 5, 10, 19].elem i
noncomputable def c33 : Code := (Try.f33.body.getD .skip)
noncomputable def o33_0 : Array Oper := rO (cL c33)
noncomputable def c33_1 : Code := (cR c33)
noncomputable def c33_2 : Code := (cR c33_1)
noncomputable def o33_6 : Array Oper := rO (cL c33_2)
noncomputable def c33_3 : Code := (cL c33_1)
noncomputable def o33_1 : Array Oper := rO (cL c33_3)
noncomputable def c33_4 : Code := (cR c33_3)
noncomputable def c33_5 : Code := (cL c33_4)
noncomputable def c33_6 : Code := (cL c33_5)
noncomputable def c33_7 : Code := (cR c33_6)
noncomputable def c33_8 : Code := (cR c33_7)
noncomputable def o33_3 : Array Oper := rO c33_8
noncomputable def c33_9 : Code := (cL c33_7)
noncomputable def c33_10 : Code := (cL c33_9)
noncomputable def o33_4 : Array Oper := rO (cL c33_10)
noncomputable def c33_11 : Code := (cR c33_10)
noncomputable def c33_12 : Code := (cL c33_11)
noncomputable def o33_5 : Array Oper := rO (cL c33_12)
noncomputable def c33_13 : Code := (cL c33_6)
noncomputable def o33_2 : Array Oper := rO (cL c33_13)
noncomputable def c33_14 : Code := (cR c33_13)
theorem o33_0_eq : opsW N M G 20 V33 o33_0 k o33_0.toList [] e e w =
    (N (xv (Instr.box 47 (e 0))) w fun t2 w =>
    M (Value.bool false) fun t4 =>
    k (Env.p (Env.p e 2 t2) 4 t4) w) := nr (by kernel_rfl)
theorem o33_6_eq : opsW N M G 20 V33 o33_6 k o33_6.toList [] e e w =
    (M (Value.bool false) fun t4 =>
    k (Env.p e 4 t4) w) := nr (by kernel_rfl)
theorem c33_2_s (hw : Cur w) : W3 Try.prog 20 V33 c33_2 Q e w = (opsW (nx Try.prog) mv gdP 20 V33 o33_6 (fun e w => Q .ret e w) o33_6.toList [] e e w) := by rw [(by kernel_rfl : c33_2 = .seq (.region 6 o33_6 false) Code.ret), W3_seq_reg]; simp only [W3_ret, W3_skip, W3_exit, W3_label]
theorem o33_1_eq : opsW N M G 20 V33 o33_1 k o33_1.toList [] e e w =
    (M (Value.int IntKind.i64 0) fun t5 =>
    k (Env.p e 5 t5) w) := nr (by kernel_rfl)
theorem o33_3_eq : opsW N M G 20 V33 o33_3 k o33_3.toList [] e e w =
    (M (e 5) fun t11 =>
    N (xv (xbin BinOp.add 3 (Operand.tmp 11) (Operand.const (Value.int IntKind.i64 1)) t11 (Value.int IntKind.i64 1))) w fun t12 w =>
    M t12 fun t5 =>
    k (Env.p e 5 t5) w) := nr (by kernel_rfl)
theorem c33_8_s (hw : Cur w) : W3 Try.prog 20 V33 c33_8 Q e w = (opsW (nx Try.prog) mv gdP 20 V33 o33_3 (fun e w => Q .normal e w) o33_3.toList [] e e w) := by rw [(by kernel_rfl : c33_8 = (.region 3 o33_3 false)), W3_reg]
theorem o33_4_eq : opsW N M G 20 V33 o33_4 k o33_4.toList [] e e w =
    (N (xv (Instr.fieldAt 47 (e 2) 1)) w fun t13 w =>
    N (xv (Instr.loadAt 30 t13)) w fun t14 w =>
    M (e 5) fun t15 =>
    N (xv (Instr.indexAt 30 t14 t15)) w fun t16 w =>
    N (xv (Instr.loadAt 9 t16)) w fun t17 w =>
    M (e 1) fun t18 =>
    N (xv (xbin BinOp.eql 9 (Operand.tmp 17) (Operand.tmp 18) t17 t18)) w fun t19 w =>
    k (Env.p e 19 t19) w) := nr (by kernel_rfl)
theorem o33_5_eq : opsW N M G 20 V33 o33_5 k o33_5.toList [] e e w =
    (M (Value.bool true) fun t4 =>
    k (Env.p e 4 t4) w) := nr (by kernel_rfl)
theorem c33_12_s (hw : Cur w) : W3 Try.prog 20 V33 c33_12 Q e w = (opsW (nx Try.prog) mv gdP 20 V33 o33_5 (fun e w => Q .ret e w) o33_5.toList [] e e w) := by rw [(by kernel_rfl : c33_12 = .seq (.region 5 o33_5 false) Code.ret), W3_seq_reg]; simp only [W3_ret, W3_skip, W3_exit, W3_label]
theorem c33_11_v : opV V33 (.tmp 19) = true := by kernel_rfl
theorem c33_11_s (hw : Cur w) : W3 Try.prog 20 V33 c33_11 Q e w = (condP (ev e (.tmp 19)) (W3 Try.prog 20 V33 c33_12 Q e w) (Q .normal e w)) := by rw [(by kernel_rfl : c33_11 = .cond (.tmp 19) c33_12 Code.skip), W3_cond, c33_11_v, cond_true]; simp only [W3_ret, W3_skip, W3_exit, W3_label]
theorem c33_10_s (hw : Cur w) : W3 Try.prog 20 V33 c33_10 Q e w = (opsW (nx Try.prog) mv gdP 20 V33 o33_4 (fun e w => W3 Try.prog 20 V33 c33_11 Q e w) o33_4.toList [] e e w) := by rw [(by kernel_rfl : c33_10 = .seq (.region 4 o33_4 false) c33_11), W3_seq_reg]
theorem c33_9_s (hw : Cur w) : W3 Try.prog 20 V33 c33_9 Q e w = (W3 Try.prog 20 V33 c33_10 (blockQ 1 Q) e w) := by rw [(by kernel_rfl : c33_9 = .block 1 c33_10), W3_block]
theorem c33_7_s (hw : Cur w) : W3 Try.prog 20 V33 c33_7 Q e w = (W3 Try.prog 20 V33 c33_9 (seqQ (fun e w => W3 Try.prog 20 V33 c33_8 Q e w) Q) e w) := by rw [(by kernel_rfl : c33_7 = .seq c33_9 c33_8), W3_seq]
theorem o33_2_eq : opsW N M G 20 V33 o33_2 k o33_2.toList [] e e w =
    (M (e 5) fun t6 =>
    N (xv (Instr.fieldAt 47 (e 2) 1)) w fun t7 w =>
    N (xv (Instr.loadAt 30 t7)) w fun t8 w =>
    N (builtin Builtin.len #[30] 3 ([false]).toArray ([t8]).toArray) w fun t9 w =>
    N (xv (xbin BinOp.lss 3 (Operand.tmp 6) (Operand.tmp 9) t6 t9)) w fun t10 w =>
    k (Env.p e 10 t10) w) := nr (by kernel_rfl)
theorem c33_14_v : opV V33 (.tmp 10) = true := by kernel_rfl
theorem c33_14_s (hw : Cur w) : W3 Try.prog 20 V33 c33_14 Q e w = (condP (ev e (.tmp 10)) (Q .normal e w) (Q (.exit 0) e w)) := by rw [(by kernel_rfl : c33_14 = .cond (.tmp 10) Code.skip (Code.exit 0)), W3_cond, c33_14_v, cond_true]; simp only [W3_ret, W3_skip, W3_exit, W3_label]
theorem c33_13_s (hw : Cur w) : W3 Try.prog 20 V33 c33_13 Q e w = (opsW (nx Try.prog) mv gdP 20 V33 o33_2 (fun e w => W3 Try.prog 20 V33 c33_14 Q e w) o33_2.toList [] e e w) := by rw [(by kernel_rfl : c33_13 = .seq (.region 2 o33_2 false) c33_14), W3_seq_reg]
theorem c33_6_s (hw : Cur w) : W3 Try.prog 20 V33 c33_6 Q e w = (W3 Try.prog 20 V33 c33_13 (seqQ (fun e w => W3 Try.prog 20 V33 c33_7 Q e w) Q) e w) := by rw [(by kernel_rfl : c33_6 = .seq c33_13 c33_7), W3_seq]
theorem c33_5_s (hw : Cur w) : W3 Try.prog 20 V33 c33_5 Q e w = (LoopP (fun e w k => W3 Try.prog 20 V33 c33_6 (seqQ k Q) e w) e w) := by rw [(by kernel_rfl : c33_5 = .loop c33_6), W3_loop]
theorem c33_4_s (hw : Cur w) : W3 Try.prog 20 V33 c33_4 Q e w = (W3 Try.prog 20 V33 c33_5 (blockQ 0 Q) e w) := by rw [(by kernel_rfl : c33_4 = .block 0 c33_5), W3_block]
theorem c33_3_s (hw : Cur w) : W3 Try.prog 20 V33 c33_3 Q e w = (opsW (nx Try.prog) mv gdP 20 V33 o33_1 (fun e w => W3 Try.prog 20 V33 c33_4 Q e w) o33_1.toList [] e e w) := by rw [(by kernel_rfl : c33_3 = .seq (.region 1 o33_1 false) c33_4), W3_seq_reg]
theorem c33_1_s (hw : Cur w) : W3 Try.prog 20 V33 c33_1 Q e w = (W3 Try.prog 20 V33 c33_3 (seqQ (fun e w => W3 Try.prog 20 V33 c33_2 Q e w) Q) e w) := by rw [(by kernel_rfl : c33_1 = .seq c33_3 c33_2), W3_seq]
theorem c33_s (hw : Cur w) : W3 Try.prog 20 V33 c33 Q e w = (opsW (nx Try.prog) mv gdP 20 V33 o33_0 (fun e w => W3 Try.prog 20 V33 c33_1 Q e w) o33_0.toList [] e e w) := by rw [(by kernel_rfl : c33 = .seq (.region 0 o33_0 false) c33_1), W3_seq_reg]
theorem call33 {a0 a1 : Value} {w : World} {R : Value → World → Prop} (h : W3 Try.prog 20 V33 c33 (retQ Try.prog [.tmp 4] R) (argE [a0, a1]) w) : CallsN Try.prog 33 [a0, a1] w R :=
  callsN_of_W3 (c := c33) (rs := [.tmp 4]) V33 Try.ntmps33 (by rw [Try.results33]) mixed Try.func33 (by kernel_rfl) (by kernel_rfl) (by kernel_rfl) (by kernel_rfl) (by simp) h
noncomputable def hk33 := And.intro (@o33_0_eq) <| And.intro (@o33_6_eq) <| And.intro (@c33_2_s) <| And.intro (@o33_1_eq) <| And.intro (@o33_3_eq) <| And.intro (@c33_8_s) <| And.intro (@o33_4_eq) <| And.intro (@o33_5_eq) <| And.intro (@c33_12_s) <| And.intro (@c33_11_s) <| And.intro (@c33_10_s) <| And.intro (@c33_9_s) <| And.intro (@c33_7_s) <| And.intro (@o33_2_eq) <| And.intro (@c33_14_s) <| And.intro (@c33_13_s) <| And.intro (@c33_6_s) <| And.intro (@c33_5_s) <| And.intro (@c33_4_s) <| And.intro (@c33_3_s) <| And.intro (@c33_1_s) <| @c33_s
-- K33: ↓hk33
/-! ### vouch/vouchref06.Same -/
def V24 : Nat → Bool := fun i => [0, 1, 2, 3, 4, 5, 19, 24, 37].elem i
noncomputable def c24 : Code := (Try.f24.body.getD .skip)
noncomputable def o24_0 : Array Oper := rO (cL c24)
noncomputable def c24_1 : Code := (cR c24)
noncomputable def c24_2 : Code := (cR c24_1)
noncomputable def c24_3 : Code := (cR c24_2)
noncomputable def o24_8 : Array Oper := rO (cL c24_3)
noncomputable def c24_4 : Code := (cL c24_2)
noncomputable def o24_3 : Array Oper := rO (cL c24_4)
noncomputable def c24_5 : Code := (cR c24_4)
noncomputable def c24_6 : Code := (cL c24_5)
noncomputable def c24_7 : Code := (cL c24_6)
noncomputable def c24_8 : Code := (cR c24_7)
noncomputable def c24_9 : Code := (cR c24_8)
noncomputable def o24_5 : Array Oper := rO c24_9
noncomputable def c24_10 : Code := (cL c24_8)
noncomputable def c24_11 : Code := (cL c24_10)
noncomputable def o24_6 : Array Oper := rO (cL c24_11)
noncomputable def c24_12 : Code := (cR c24_11)
noncomputable def c24_13 : Code := (cL c24_12)
noncomputable def o24_7 : Array Oper := rO (cL c24_13)
noncomputable def c24_14 : Code := (cL c24_7)
noncomputable def o24_4 : Array Oper := rO (cL c24_14)
noncomputable def c24_15 : Code := (cR c24_14)
noncomputable def c24_16 : Code := (cL c24_1)
noncomputable def o24_1 : Array Oper := rO (cL c24_16)
noncomputable def c24_17 : Code := (cR c24_16)
noncomputable def c24_18 : Code := (cL c24_17)
noncomputable def o24_2 : Array Oper := rO (cL c24_18)
theorem o24_0_eq : opsW N M G 38 V24 o24_0 k o24_0.toList [] e e w =
    (N (xv (Instr.box 47 (e 0))) w fun t2 w =>
    N (xv (Instr.box 47 (e 1))) w fun t3 w =>
    M (Value.bool false) fun t4 =>
    k (Env.p (Env.p (Env.p e 2 t2) 3 t3) 4 t4) w) := nr (by kernel_rfl)
theorem o24_8_eq : opsW N M G 38 V24 o24_8 k o24_8.toList [] e e w =
    (M (Value.bool true) fun t4 =>
    k (Env.p e 4 t4) w) := nr (by kernel_rfl)
theorem c24_3_s (hw : Cur w) : W3 Try.prog 38 V24 c24_3 Q e w = (opsW (nx Try.prog) mv gdP 38 V24 o24_8 (fun e w => Q .ret e w) o24_8.toList [] e e w) := by rw [(by kernel_rfl : c24_3 = .seq (.region 8 o24_8 false) Code.ret), W3_seq_reg]; simp only [W3_ret, W3_skip, W3_exit, W3_label]
theorem o24_3_eq : opsW N M G 38 V24 o24_3 k o24_3.toList [] e e w =
    (M (Value.int IntKind.i64 0) fun t5 =>
    k (Env.p e 5 t5) w) := nr (by kernel_rfl)
theorem o24_5_eq : opsW N M G 38 V24 o24_5 k o24_5.toList [] e e w =
    (M (e 5) fun t25 =>
    N (xv (xbin BinOp.add 3 (Operand.tmp 25) (Operand.const (Value.int IntKind.i64 1)) t25 (Value.int IntKind.i64 1))) w fun t26 w =>
    M t26 fun t5 =>
    k (Env.p e 5 t5) w) := nr (by kernel_rfl)
theorem c24_9_s (hw : Cur w) : W3 Try.prog 38 V24 c24_9 Q e w = (opsW (nx Try.prog) mv gdP 38 V24 o24_5 (fun e w => Q .normal e w) o24_5.toList [] e e w) := by rw [(by kernel_rfl : c24_9 = (.region 5 o24_5 false)), W3_reg]
theorem o24_6_eq : drawGo3 N T3 M G H 38 V24 o24_6 (puK o24_6) k o24_6.size [] (Array.replicate o24_6.size false) [] e e w =
    (T3 (FrX none w) (xv (Instr.fieldAt 47 (e 2) 1)) fun t27 =>
    T3 (FrX (some []) w) (xv (Instr.loadAt 30 t27)) fun t28 =>
    M (e 5) fun t29 =>
    T3 (FrX none w) (xv (Instr.indexAt 30 t28 t29)) fun t30 =>
    T3 (FrX (some []) w) (xv (Instr.loadAt 9 t30)) fun t31 =>
    T3 (FrX none w) (xv (Instr.fieldAt 47 (e 3) 1)) fun t32 =>
    T3 (FrX (some []) w) (xv (Instr.loadAt 30 t32)) fun t33 =>
    M (e 5) fun t34 =>
    T3 (FrX none w) (xv (Instr.indexAt 30 t33 t34)) fun t35 =>
    T3 (FrX (some []) w) (xv (Instr.loadAt 9 t35)) fun t36 =>
    T3 (FrX none w) (xv (xbin BinOp.neq 9 (Operand.tmp 31) (Operand.tmp 36) t31 t36)) fun t37 =>
    (k (Env.p e 37 t37)) w) := nr (by kernel_rfl)
theorem o24_7_eq : opsW N M G 38 V24 o24_7 k o24_7.toList [] e e w =
    (M (Value.bool false) fun t4 =>
    k (Env.p e 4 t4) w) := nr (by kernel_rfl)
theorem c24_13_s (hw : Cur w) : W3 Try.prog 38 V24 c24_13 Q e w = (opsW (nx Try.prog) mv gdP 38 V24 o24_7 (fun e w => Q .ret e w) o24_7.toList [] e e w) := by rw [(by kernel_rfl : c24_13 = .seq (.region 7 o24_7 false) Code.ret), W3_seq_reg]; simp only [W3_ret, W3_skip, W3_exit, W3_label]
theorem c24_12_v : opV V24 (.tmp 37) = true := by kernel_rfl
theorem c24_12_s (hw : Cur w) : W3 Try.prog 38 V24 c24_12 Q e w = (condP (ev e (.tmp 37)) (W3 Try.prog 38 V24 c24_13 Q e w) (Q .normal e w)) := by rw [(by kernel_rfl : c24_12 = .cond (.tmp 37) c24_13 Code.skip), W3_cond, c24_12_v, cond_true]; simp only [W3_ret, W3_skip, W3_exit, W3_label]
theorem c24_11_s (hw : Cur w) : W3 Try.prog 38 V24 c24_11 Q e w = (drawGo3 (nx Try.prog) (takeP Try.prog) mv gdP gdT 38 V24 o24_6 (puK o24_6) (fun e w => W3 Try.prog 38 V24 c24_12 Q e w) o24_6.size [] (Array.replicate o24_6.size false) [] e e w.drew) := by rw [(by kernel_rfl : c24_11 = .seq (.region 6 o24_6 true) c24_12), W3_seq_regD]
theorem c24_10_s (hw : Cur w) : W3 Try.prog 38 V24 c24_10 Q e w = (W3 Try.prog 38 V24 c24_11 (blockQ 1 Q) e w) := by rw [(by kernel_rfl : c24_10 = .block 1 c24_11), W3_block]
theorem c24_8_s (hw : Cur w) : W3 Try.prog 38 V24 c24_8 Q e w = (W3 Try.prog 38 V24 c24_10 (seqQ (fun e w => W3 Try.prog 38 V24 c24_9 Q e w) Q) e w) := by rw [(by kernel_rfl : c24_8 = .seq c24_10 c24_9), W3_seq]
theorem o24_4_eq : opsW N M G 38 V24 o24_4 k o24_4.toList [] e e w =
    (M (e 5) fun t20 =>
    N (xv (Instr.fieldAt 47 (e 2) 1)) w fun t21 w =>
    N (xv (Instr.loadAt 30 t21)) w fun t22 w =>
    N (builtin Builtin.len #[30] 3 ([false]).toArray ([t22]).toArray) w fun t23 w =>
    N (xv (xbin BinOp.lss 3 (Operand.tmp 20) (Operand.tmp 23) t20 t23)) w fun t24 w =>
    k (Env.p e 24 t24) w) := nr (by kernel_rfl)
theorem c24_15_v : opV V24 (.tmp 24) = true := by kernel_rfl
theorem c24_15_s (hw : Cur w) : W3 Try.prog 38 V24 c24_15 Q e w = (condP (ev e (.tmp 24)) (Q .normal e w) (Q (.exit 0) e w)) := by rw [(by kernel_rfl : c24_15 = .cond (.tmp 24) Code.skip (Code.exit 0)), W3_cond, c24_15_v, cond_true]; simp only [W3_ret, W3_skip, W3_exit, W3_label]
theorem c24_14_s (hw : Cur w) : W3 Try.prog 38 V24 c24_14 Q e w = (opsW (nx Try.prog) mv gdP 38 V24 o24_4 (fun e w => W3 Try.prog 38 V24 c24_15 Q e w) o24_4.toList [] e e w) := by rw [(by kernel_rfl : c24_14 = .seq (.region 4 o24_4 false) c24_15), W3_seq_reg]
theorem c24_7_s (hw : Cur w) : W3 Try.prog 38 V24 c24_7 Q e w = (W3 Try.prog 38 V24 c24_14 (seqQ (fun e w => W3 Try.prog 38 V24 c24_8 Q e w) Q) e w) := by rw [(by kernel_rfl : c24_7 = .seq c24_14 c24_8), W3_seq]
theorem c24_6_s (hw : Cur w) : W3 Try.prog 38 V24 c24_6 Q e w = (LoopP (fun e w k => W3 Try.prog 38 V24 c24_7 (seqQ k Q) e w) e w) := by rw [(by kernel_rfl : c24_6 = .loop c24_7), W3_loop]
theorem c24_5_s (hw : Cur w) : W3 Try.prog 38 V24 c24_5 Q e w = (W3 Try.prog 38 V24 c24_6 (blockQ 0 Q) e w) := by rw [(by kernel_rfl : c24_5 = .block 0 c24_6), W3_block]
theorem c24_4_s (hw : Cur w) : W3 Try.prog 38 V24 c24_4 Q e w = (opsW (nx Try.prog) mv gdP 38 V24 o24_3 (fun e w => W3 Try.prog 38 V24 c24_5 Q e w) o24_3.toList [] e e w) := by rw [(by kernel_rfl : c24_4 = .seq (.region 3 o24_3 false) c24_5), W3_seq_reg]
theorem c24_2_s (hw : Cur w) : W3 Try.prog 38 V24 c24_2 Q e w = (W3 Try.prog 38 V24 c24_4 (seqQ (fun e w => W3 Try.prog 38 V24 c24_3 Q e w) Q) e w) := by rw [(by kernel_rfl : c24_2 = .seq c24_4 c24_3), W3_seq]
theorem o24_1_eq : opsW N M G 38 V24 o24_1 k o24_1.toList [] e e w =
    (N (xv (Instr.fieldAt 47 (e 2) 0)) w fun t6 w =>
    N (xv (Instr.loadAt 2 t6)) w fun t7 w =>
    N (xv (Instr.fieldAt 47 (e 3) 0)) w fun t8 w =>
    N (xv (Instr.loadAt 2 t8)) w fun t9 w =>
    N (xv (xbin BinOp.neq 2 (Operand.tmp 7) (Operand.tmp 9) t7 t9)) w fun t10 w =>
    M t10 fun t11 =>
    G (isB t11 false) (fun K => N (xv (Instr.fieldAt 47 (e 2) 1)) w K) (fun t12 w =>
    G (isB t11 false) (fun K => N (xv (Instr.loadAt 30 t12)) w K) (fun t13 w =>
    G (isB t11 false) (fun K => N (builtin Builtin.len #[30] 3 ([false]).toArray ([t13]).toArray) w K) (fun t14 w =>
    G (isB t11 false) (fun K => N (xv (Instr.fieldAt 47 (e 3) 1)) w K) (fun t15 w =>
    G (isB t11 false) (fun K => N (xv (Instr.loadAt 30 t15)) w K) (fun t16 w =>
    G (isB t11 false) (fun K => N (builtin Builtin.len #[30] 3 ([false]).toArray ([t16]).toArray) w K) (fun t17 w =>
    G (isB t11 false) (fun K => N (xv (xbin BinOp.neq 3 (Operand.tmp 14) (Operand.tmp 17) t14 t17)) w K) (fun t18 w =>
    N (xpick t11 (Value.bool true) t18) w fun t19 w =>
    k (Env.p e 19 t19) w) w) w) w) w) w) w) w) := nr (by kernel_rfl)
theorem o24_2_eq : opsW N M G 38 V24 o24_2 k o24_2.toList [] e e w =
    (M (Value.bool false) fun t4 =>
    k (Env.p e 4 t4) w) := nr (by kernel_rfl)
theorem c24_18_s (hw : Cur w) : W3 Try.prog 38 V24 c24_18 Q e w = (opsW (nx Try.prog) mv gdP 38 V24 o24_2 (fun e w => Q .ret e w) o24_2.toList [] e e w) := by rw [(by kernel_rfl : c24_18 = .seq (.region 2 o24_2 false) Code.ret), W3_seq_reg]; simp only [W3_ret, W3_skip, W3_exit, W3_label]
theorem c24_17_v : opV V24 (.tmp 19) = true := by kernel_rfl
theorem c24_17_s (hw : Cur w) : W3 Try.prog 38 V24 c24_17 Q e w = (condP (ev e (.tmp 19)) (W3 Try.prog 38 V24 c24_18 Q e w) (Q .normal e w)) := by rw [(by kernel_rfl : c24_17 = .cond (.tmp 19) c24_18 Code.skip), W3_cond, c24_17_v, cond_true]; simp only [W3_ret, W3_skip, W3_exit, W3_label]
theorem c24_16_s (hw : Cur w) : W3 Try.prog 38 V24 c24_16 Q e w = (opsW (nx Try.prog) mv gdP 38 V24 o24_1 (fun e w => W3 Try.prog 38 V24 c24_17 Q e w) o24_1.toList [] e e w) := by rw [(by kernel_rfl : c24_16 = .seq (.region 1 o24_1 false) c24_17), W3_seq_reg]
theorem c24_1_s (hw : Cur w) : W3 Try.prog 38 V24 c24_1 Q e w = (W3 Try.prog 38 V24 c24_16 (seqQ (fun e w => W3 Try.prog 38 V24 c24_2 Q e w) Q) e w) := by rw [(by kernel_rfl : c24_1 = .seq c24_16 c24_2), W3_seq]
theorem c24_s (hw : Cur w) : W3 Try.prog 38 V24 c24 Q e w = (opsW (nx Try.prog) mv gdP 38 V24 o24_0 (fun e w => W3 Try.prog 38 V24 c24_1 Q e w) o24_0.toList [] e e w) := by rw [(by kernel_rfl : c24 = .seq (.region 0 o24_0 false) c24_1), W3_seq_reg]
theorem call24 {a0 a1 : Value} {w : World} {R : Value → World → Prop} (h : W3 Try.prog 38 V24 c24 (retQ Try.prog [.tmp 4] R) (argE [a0, a1]) w) : CallsN Try.prog 24 [a0, a1] w R :=
  callsN_of_W3 (c := c24) (rs := [.tmp 4]) V24 Try.ntmps24 (by rw [Try.results24]) mixed Try.func24 (by kernel_rfl) (by kernel_rfl) (by kernel_rfl) (by kernel_rfl) (by simp) h
noncomputable def hk24 := And.intro (@o24_0_eq) <| And.intro (@o24_8_eq) <| And.intro (@c24_3_s) <| And.intro (@o24_3_eq) <| And.intro (@o24_5_eq) <| And.intro (@c24_9_s) <| And.intro (@o24_6_eq) <| And.intro (@o24_7_eq) <| And.intro (@c24_13_s) <| And.intro (@c24_12_s) <| And.intro (@c24_11_s) <| And.intro (@c24_10_s) <| And.intro (@c24_8_s) <| And.intro (@o24_4_eq) <| And.intro (@c24_15_s) <| And.intro (@c24_14_s) <| And.intro (@c24_7_s) <| And.intro (@c24_6_s) <| And.intro (@c24_5_s) <| And.intro (@c24_4_s) <| And.intro (@c24_2_s) <| And.intro (@o24_1_eq) <| And.intro (@o24_2_eq) <| And.intro (@c24_18_s) <| And.intro (@c24_17_s) <| And.intro (@c24_16_s) <| And.intro (@c24_1_s) <| @c24_s
-- K24: ↓hk24
/-! ### vouch/vouchref06.SameAll -/
def V18 : Nat → Bool := fun i => [0, 1, 4, 5, 10, 14, 26].elem i
noncomputable def c18 : Code := (Try.f18.body.getD .skip)
noncomputable def o18_0 : Array Oper := rO (cL c18)
noncomputable def c18_1 : Code := (cR c18)
noncomputable def c18_2 : Code := (cR c18_1)
noncomputable def c18_3 : Code := (cR c18_2)
noncomputable def o18_8 : Array Oper := rO (cL c18_3)
noncomputable def c18_4 : Code := (cL c18_2)
noncomputable def o18_3 : Array Oper := rO (cL c18_4)
noncomputable def c18_5 : Code := (cR c18_4)
noncomputable def c18_6 : Code := (cL c18_5)
noncomputable def c18_7 : Code := (cL c18_6)
noncomputable def c18_8 : Code := (cR c18_7)
noncomputable def c18_9 : Code := (cR c18_8)
noncomputable def o18_5 : Array Oper := rO c18_9
noncomputable def c18_10 : Code := (cL c18_8)
noncomputable def c18_11 : Code := (cL c18_10)
noncomputable def o18_6 : Array Oper := rO (cL c18_11)
noncomputable def c18_12 : Code := (cR c18_11)
noncomputable def c18_13 : Code := (cL c18_12)
noncomputable def o18_7 : Array Oper := rO (cL c18_13)
noncomputable def c18_14 : Code := (cL c18_7)
noncomputable def o18_4 : Array Oper := rO (cL c18_14)
noncomputable def c18_15 : Code := (cR c18_14)
noncomputable def c18_16 : Code := (cL c18_1)
noncomputable def o18_1 : Array Oper := rO (cL c18_16)
noncomputable def c18_17 : Code := (cR c18_16)
noncomputable def c18_18 : Code := (cL c18_17)
noncomputable def o18_2 : Array Oper := rO (cL c18_18)
theorem o18_0_eq : opsW N M G 27 V18 o18_0 k o18_0.toList [] e e w =
    (M (Value.bool false) fun t4 =>
    k (Env.p e 4 t4) w) := nr (by kernel_rfl)
theorem o18_8_eq : opsW N M G 27 V18 o18_8 k o18_8.toList [] e e w =
    (M (Value.bool true) fun t4 =>
    k (Env.p e 4 t4) w) := nr (by kernel_rfl)
theorem c18_3_s (hw : Cur w) : W3 Try.prog 27 V18 c18_3 Q e w = (opsW (nx Try.prog) mv gdP 27 V18 o18_8 (fun e w => Q .ret e w) o18_8.toList [] e e w) := by rw [(by kernel_rfl : c18_3 = .seq (.region 8 o18_8 false) Code.ret), W3_seq_reg]; simp only [W3_ret, W3_skip, W3_exit, W3_label]
theorem o18_3_eq : opsW N M G 27 V18 o18_3 k o18_3.toList [] e e w =
    (M (Value.int IntKind.i64 0) fun t5 =>
    k (Env.p e 5 t5) w) := nr (by kernel_rfl)
theorem o18_5_eq : opsW N M G 27 V18 o18_5 k o18_5.toList [] e e w =
    (M (e 5) fun t15 =>
    N (xv (xbin BinOp.add 3 (Operand.tmp 15) (Operand.const (Value.int IntKind.i64 1)) t15 (Value.int IntKind.i64 1))) w fun t16 w =>
    M t16 fun t5 =>
    k (Env.p e 5 t5) w) := nr (by kernel_rfl)
theorem c18_9_s (hw : Cur w) : W3 Try.prog 27 V18 c18_9 Q e w = (opsW (nx Try.prog) mv gdP 27 V18 o18_5 (fun e w => Q .normal e w) o18_5.toList [] e e w) := by rw [(by kernel_rfl : c18_9 = (.region 5 o18_5 false)), W3_reg]
theorem o18_6_eq : drawGo3 N T3 M G H 27 V18 o18_6 (puK o18_6) k o18_6.size [] (Array.replicate o18_6.size false) [] e e w =
    (M (e 0) fun t17 =>
    M (e 5) fun t18 =>
    T3 (FrX none w) (xv (Instr.indexAt 36 t17 t18)) fun t19 =>
    T3 (FrX (some []) w) (xv (Instr.loadAt 47 t19)) fun t20 =>
    M (e 1) fun t21 =>
    M (e 5) fun t22 =>
    T3 (FrX none w) (xv (Instr.indexAt 36 t21 t22)) fun t23 =>
    T3 (FrX (some []) w) (xv (Instr.loadAt 47 t23)) fun t24 =>
    N (xcall (Value.func (Fn.func 24) #[] #[]) [t20, t24]) w fun t25 w8 =>
    T3 (FrX none w8) (xv (Op.unary UnOp.not t25)) fun t26 =>
    (k (Env.p e 26 t26)) w8) := nr (by kernel_rfl)
theorem o18_7_eq : opsW N M G 27 V18 o18_7 k o18_7.toList [] e e w =
    (M (Value.bool false) fun t4 =>
    k (Env.p e 4 t4) w) := nr (by kernel_rfl)
theorem c18_13_s (hw : Cur w) : W3 Try.prog 27 V18 c18_13 Q e w = (opsW (nx Try.prog) mv gdP 27 V18 o18_7 (fun e w => Q .ret e w) o18_7.toList [] e e w) := by rw [(by kernel_rfl : c18_13 = .seq (.region 7 o18_7 false) Code.ret), W3_seq_reg]; simp only [W3_ret, W3_skip, W3_exit, W3_label]
theorem c18_12_v : opV V18 (.tmp 26) = true := by kernel_rfl
theorem c18_12_s (hw : Cur w) : W3 Try.prog 27 V18 c18_12 Q e w = (condP (ev e (.tmp 26)) (W3 Try.prog 27 V18 c18_13 Q e w) (Q .normal e w)) := by rw [(by kernel_rfl : c18_12 = .cond (.tmp 26) c18_13 Code.skip), W3_cond, c18_12_v, cond_true]; simp only [W3_ret, W3_skip, W3_exit, W3_label]
theorem c18_11_s (hw : Cur w) : W3 Try.prog 27 V18 c18_11 Q e w = (drawGo3 (nx Try.prog) (takeP Try.prog) mv gdP gdT 27 V18 o18_6 (puK o18_6) (fun e w => W3 Try.prog 27 V18 c18_12 Q e w) o18_6.size [] (Array.replicate o18_6.size false) [] e e w.drew) := by rw [(by kernel_rfl : c18_11 = .seq (.region 6 o18_6 true) c18_12), W3_seq_regD]
theorem c18_10_s (hw : Cur w) : W3 Try.prog 27 V18 c18_10 Q e w = (W3 Try.prog 27 V18 c18_11 (blockQ 1 Q) e w) := by rw [(by kernel_rfl : c18_10 = .block 1 c18_11), W3_block]
theorem c18_8_s (hw : Cur w) : W3 Try.prog 27 V18 c18_8 Q e w = (W3 Try.prog 27 V18 c18_10 (seqQ (fun e w => W3 Try.prog 27 V18 c18_9 Q e w) Q) e w) := by rw [(by kernel_rfl : c18_8 = .seq c18_10 c18_9), W3_seq]
theorem o18_4_eq : opsW N M G 27 V18 o18_4 k o18_4.toList [] e e w =
    (M (e 5) fun t11 =>
    M (e 0) fun t12 =>
    N (builtin Builtin.len #[36] 3 ([false]).toArray ([t12]).toArray) w fun t13 w =>
    N (xv (xbin BinOp.lss 3 (Operand.tmp 11) (Operand.tmp 13) t11 t13)) w fun t14 w =>
    k (Env.p e 14 t14) w) := nr (by kernel_rfl)
theorem c18_15_v : opV V18 (.tmp 14) = true := by kernel_rfl
theorem c18_15_s (hw : Cur w) : W3 Try.prog 27 V18 c18_15 Q e w = (condP (ev e (.tmp 14)) (Q .normal e w) (Q (.exit 0) e w)) := by rw [(by kernel_rfl : c18_15 = .cond (.tmp 14) Code.skip (Code.exit 0)), W3_cond, c18_15_v, cond_true]; simp only [W3_ret, W3_skip, W3_exit, W3_label]
theorem c18_14_s (hw : Cur w) : W3 Try.prog 27 V18 c18_14 Q e w = (opsW (nx Try.prog) mv gdP 27 V18 o18_4 (fun e w => W3 Try.prog 27 V18 c18_15 Q e w) o18_4.toList [] e e w) := by rw [(by kernel_rfl : c18_14 = .seq (.region 4 o18_4 false) c18_15), W3_seq_reg]
theorem c18_7_s (hw : Cur w) : W3 Try.prog 27 V18 c18_7 Q e w = (W3 Try.prog 27 V18 c18_14 (seqQ (fun e w => W3 Try.prog 27 V18 c18_8 Q e w) Q) e w) := by rw [(by kernel_rfl : c18_7 = .seq c18_14 c18_8), W3_seq]
theorem c18_6_s (hw : Cur w) : W3 Try.prog 27 V18 c18_6 Q e w = (LoopP (fun e w k => W3 Try.prog 27 V18 c18_7 (seqQ k Q) e w) e w) := by rw [(by kernel_rfl : c18_6 = .loop c18_7), W3_loop]
theorem c18_5_s (hw : Cur w) : W3 Try.prog 27 V18 c18_5 Q e w = (W3 Try.prog 27 V18 c18_6 (blockQ 0 Q) e w) := by rw [(by kernel_rfl : c18_5 = .block 0 c18_6), W3_block]
theorem c18_4_s (hw : Cur w) : W3 Try.prog 27 V18 c18_4 Q e w = (opsW (nx Try.prog) mv gdP 27 V18 o18_3 (fun e w => W3 Try.prog 27 V18 c18_5 Q e w) o18_3.toList [] e e w) := by rw [(by kernel_rfl : c18_4 = .seq (.region 3 o18_3 false) c18_5), W3_seq_reg]
theorem c18_2_s (hw : Cur w) : W3 Try.prog 27 V18 c18_2 Q e w = (W3 Try.prog 27 V18 c18_4 (seqQ (fun e w => W3 Try.prog 27 V18 c18_3 Q e w) Q) e w) := by rw [(by kernel_rfl : c18_2 = .seq c18_4 c18_3), W3_seq]
theorem o18_1_eq : opsW N M G 27 V18 o18_1 k o18_1.toList [] e e w =
    (M (e 0) fun t6 =>
    N (builtin Builtin.len #[36] 3 ([false]).toArray ([t6]).toArray) w fun t7 w =>
    M (e 1) fun t8 =>
    N (builtin Builtin.len #[36] 3 ([false]).toArray ([t8]).toArray) w fun t9 w =>
    N (xv (xbin BinOp.neq 3 (Operand.tmp 7) (Operand.tmp 9) t7 t9)) w fun t10 w =>
    k (Env.p e 10 t10) w) := nr (by kernel_rfl)
theorem o18_2_eq : opsW N M G 27 V18 o18_2 k o18_2.toList [] e e w =
    (M (Value.bool false) fun t4 =>
    k (Env.p e 4 t4) w) := nr (by kernel_rfl)
theorem c18_18_s (hw : Cur w) : W3 Try.prog 27 V18 c18_18 Q e w = (opsW (nx Try.prog) mv gdP 27 V18 o18_2 (fun e w => Q .ret e w) o18_2.toList [] e e w) := by rw [(by kernel_rfl : c18_18 = .seq (.region 2 o18_2 false) Code.ret), W3_seq_reg]; simp only [W3_ret, W3_skip, W3_exit, W3_label]
theorem c18_17_v : opV V18 (.tmp 10) = true := by kernel_rfl
theorem c18_17_s (hw : Cur w) : W3 Try.prog 27 V18 c18_17 Q e w = (condP (ev e (.tmp 10)) (W3 Try.prog 27 V18 c18_18 Q e w) (Q .normal e w)) := by rw [(by kernel_rfl : c18_17 = .cond (.tmp 10) c18_18 Code.skip), W3_cond, c18_17_v, cond_true]; simp only [W3_ret, W3_skip, W3_exit, W3_label]
theorem c18_16_s (hw : Cur w) : W3 Try.prog 27 V18 c18_16 Q e w = (opsW (nx Try.prog) mv gdP 27 V18 o18_1 (fun e w => W3 Try.prog 27 V18 c18_17 Q e w) o18_1.toList [] e e w) := by rw [(by kernel_rfl : c18_16 = .seq (.region 1 o18_1 false) c18_17), W3_seq_reg]
theorem c18_1_s (hw : Cur w) : W3 Try.prog 27 V18 c18_1 Q e w = (W3 Try.prog 27 V18 c18_16 (seqQ (fun e w => W3 Try.prog 27 V18 c18_2 Q e w) Q) e w) := by rw [(by kernel_rfl : c18_1 = .seq c18_16 c18_2), W3_seq]
theorem c18_s (hw : Cur w) : W3 Try.prog 27 V18 c18 Q e w = (opsW (nx Try.prog) mv gdP 27 V18 o18_0 (fun e w => W3 Try.prog 27 V18 c18_1 Q e w) o18_0.toList [] e e w) := by rw [(by kernel_rfl : c18 = .seq (.region 0 o18_0 false) c18_1), W3_seq_reg]
theorem call18 {a0 a1 : Value} {w : World} {R : Value → World → Prop} (h : W3 Try.prog 27 V18 c18 (retQ Try.prog [.tmp 4] R) (argE [a0, a1]) w) : CallsN Try.prog 18 [a0, a1] w R :=
  callsN_of_W3 (c := c18) (rs := [.tmp 4]) V18 Try.ntmps18 (by rw [Try.results18]) mixed Try.func18 (by kernel_rfl) (by kernel_rfl) (by kernel_rfl) (by kernel_rfl) (by simp) h
noncomputable def hk18 := And.intro (@o18_0_eq) <| And.intro (@o18_8_eq) <| And.intro (@c18_3_s) <| And.intro (@o18_3_eq) <| And.intro (@o18_5_eq) <| And.intro (@c18_9_s) <| And.intro (@o18_6_eq) <| And.intro (@o18_7_eq) <| And.intro (@c18_13_s) <| And.intro (@c18_12_s) <| And.intro (@c18_11_s) <| And.intro (@c18_10_s) <| And.intro (@c18_8_s) <| And.intro (@o18_4_eq) <| And.intro (@c18_15_s) <| And.intro (@c18_14_s) <| And.intro (@c18_7_s) <| And.intro (@c18_6_s) <| And.intro (@c18_5_s) <| And.intro (@c18_4_s) <| And.intro (@c18_2_s) <| And.intro (@o18_1_eq) <| And.intro (@o18_2_eq) <| And.intro (@c18_18_s) <| And.intro (@c18_17_s) <| And.intro (@c18_16_s) <| And.intro (@c18_1_s) <| @c18_s
-- K18: ↓hk18
/-! ### vouch/vouchref06.Check -/
def V27 : Nat → Bool := fun i => [0, 2, 3, 4, 5, 13, 17, 33, 37, 42, 53].elem i
noncomputable def c27 : Code := (Try.f27.body.getD .skip)
noncomputable def o27_0 : Array Oper := rO (cL c27)
noncomputable def c27_1 : Code := (cR c27)
noncomputable def c27_2 : Code := (cR c27_1)
noncomputable def c27_3 : Code := (cR c27_2)
noncomputable def c27_4 : Code := (cR c27_3)
noncomputable def o27_16 : Array Oper := rO (cL c27_4)
noncomputable def c27_5 : Code := (cL c27_3)
noncomputable def o27_8 : Array Oper := rO (cL c27_5)
noncomputable def c27_6 : Code := (cR c27_5)
noncomputable def c27_7 : Code := (cL c27_6)
noncomputable def c27_8 : Code := (cL c27_7)
noncomputable def c27_9 : Code := (cR c27_8)
noncomputable def c27_10 : Code := (cR c27_9)
noncomputable def o27_10 : Array Oper := rO c27_10
noncomputable def c27_11 : Code := (cL c27_9)
noncomputable def c27_12 : Code := (cL c27_11)
noncomputable def o27_11 : Array Oper := rO (cL c27_12)
noncomputable def c27_13 : Code := (cR c27_12)
noncomputable def c27_14 : Code := (cL c27_13)
noncomputable def c27_15 : Code := (cL c27_14)
noncomputable def c27_16 : Code := (cR c27_15)
noncomputable def c27_17 : Code := (cR c27_16)
noncomputable def o27_13 : Array Oper := rO c27_17
noncomputable def c27_18 : Code := (cL c27_16)
noncomputable def c27_19 : Code := (cL c27_18)
noncomputable def o27_14 : Array Oper := rO (cL c27_19)
noncomputable def c27_20 : Code := (cR c27_19)
noncomputable def c27_21 : Code := (cL c27_20)
noncomputable def o27_15 : Array Oper := rO (cL c27_21)
noncomputable def c27_22 : Code := (cL c27_15)
noncomputable def o27_12 : Array Oper := rO (cL c27_22)
noncomputable def c27_23 : Code := (cR c27_22)
noncomputable def c27_24 : Code := (cL c27_8)
noncomputable def o27_9 : Array Oper := rO (cL c27_24)
noncomputable def c27_25 : Code := (cR c27_24)
noncomputable def c27_26 : Code := (cL c27_2)
noncomputable def o27_3 : Array Oper := rO (cL c27_26)
noncomputable def c27_27 : Code := (cR c27_26)
noncomputable def c27_28 : Code := (cL c27_27)
noncomputable def c27_29 : Code := (cL c27_28)
noncomputable def c27_30 : Code := (cR c27_29)
noncomputable def c27_31 : Code := (cR c27_30)
noncomputable def o27_5 : Array Oper := rO c27_31
noncomputable def c27_32 : Code := (cL c27_30)
noncomputable def c27_33 : Code := (cL c27_32)
noncomputable def o27_6 : Array Oper := rO (cL c27_33)
noncomputable def c27_34 : Code := (cR c27_33)
noncomputable def c27_35 : Code := (cL c27_34)
noncomputable def o27_7 : Array Oper := rO (cL c27_35)
noncomputable def c27_36 : Code := (cL c27_29)
noncomputable def o27_4 : Array Oper := rO (cL c27_36)
noncomputable def c27_37 : Code := (cR c27_36)
noncomputable def c27_38 : Code := (cL c27_1)
noncomputable def o27_1 : Array Oper := rO (cL c27_38)
noncomputable def c27_39 : Code := (cR c27_38)
noncomputable def c27_40 : Code := (cL c27_39)
noncomputable def o27_2 : Array Oper := rO (cL c27_40)
theorem o27_0_eq : opsW N M G 54 V27 o27_0 k o27_0.toList [] e e w =
    (M (Value.int IntKind.i64 0) fun t2 =>
    k (Env.p e 2 t2) w) := nr (by kernel_rfl)
theorem o27_16_eq : opsW N M G 54 V27 o27_16 k o27_16.toList [] e e w =
    (M (Value.int IntKind.i64 0) fun t2 =>
    k (Env.p e 2 t2) w) := nr (by kernel_rfl)
theorem c27_4_s (hw : Cur w) : W3 Try.prog 54 V27 c27_4 Q e w = (opsW (nx Try.prog) mv gdP 54 V27 o27_16 (fun e w => Q .ret e w) o27_16.toList [] e e w) := by rw [(by kernel_rfl : c27_4 = .seq (.region 16 o27_16 false) Code.ret), W3_seq_reg]; simp only [W3_ret, W3_skip, W3_exit, W3_label]
theorem o27_8_eq : opsW N M G 54 V27 o27_8 k o27_8.toList [] e e w =
    (M (Value.int IntKind.i64 0) fun t4 =>
    k (Env.p e 4 t4) w) := nr (by kernel_rfl)
theorem o27_10_eq : opsW N M G 54 V27 o27_10 k o27_10.toList [] e e w =
    (M (e 4) fun t38 =>
    N (xv (xbin BinOp.add 3 (Operand.tmp 38) (Operand.const (Value.int IntKind.i64 1)) t38 (Value.int IntKind.i64 1))) w fun t39 w =>
    M t39 fun t4 =>
    k (Env.p e 4 t4) w) := nr (by kernel_rfl)
theorem c27_10_s (hw : Cur w) : W3 Try.prog 54 V27 c27_10 Q e w = (opsW (nx Try.prog) mv gdP 54 V27 o27_10 (fun e w => Q .normal e w) o27_10.toList [] e e w) := by rw [(by kernel_rfl : c27_10 = (.region 10 o27_10 false)), W3_reg]
theorem o27_11_eq : opsW N M G 54 V27 o27_11 k o27_11.toList [] e e w =
    (M (Value.int IntKind.i64 0) fun t5 =>
    k (Env.p e 5 t5) w) := nr (by kernel_rfl)
theorem o27_13_eq : opsW N M G 54 V27 o27_13 k o27_13.toList [] e e w =
    (M (e 5) fun t43 =>
    N (xv (xbin BinOp.add 3 (Operand.tmp 43) (Operand.const (Value.int IntKind.i64 1)) t43 (Value.int IntKind.i64 1))) w fun t44 w =>
    M t44 fun t5 =>
    k (Env.p e 5 t5) w) := nr (by kernel_rfl)
theorem c27_17_s (hw : Cur w) : W3 Try.prog 54 V27 c27_17 Q e w = (opsW (nx Try.prog) mv gdP 54 V27 o27_13 (fun e w => Q .normal e w) o27_13.toList [] e e w) := by rw [(by kernel_rfl : c27_17 = (.region 13 o27_13 false)), W3_reg]
theorem o27_14_eq : drawGo3 N T3 M G H 54 V27 o27_14 (puK o27_14) k o27_14.size [] (Array.replicate o27_14.size false) [] e e w =
    (M (e 0) fun t45 =>
    M (e 5) fun t46 =>
    T3 (FrX none w) (xv (Instr.indexAt 30 t45 t46)) fun t47 =>
    T3 (FrX (some []) w) (xv (Instr.loadAt 9 t47)) fun t48 =>
    M (e 0) fun t49 =>
    M (e 4) fun t50 =>
    T3 (FrX none w) (xv (Instr.indexAt 30 t49 t50)) fun t51 =>
    T3 (FrX (some []) w) (xv (Instr.loadAt 9 t51)) fun t52 =>
    T3 (FrX none w) (xv (xbin BinOp.eql 9 (Operand.tmp 48) (Operand.tmp 52) t48 t52)) fun t53 =>
    (k (Env.p e 53 t53)) w) := nr (by kernel_rfl)
theorem o27_15_eq : opsW N M G 54 V27 o27_15 k o27_15.toList [] e e w =
    (M (Value.int IntKind.i64 22) fun t2 =>
    k (Env.p e 2 t2) w) := nr (by kernel_rfl)
theorem c27_21_s (hw : Cur w) : W3 Try.prog 54 V27 c27_21 Q e w = (opsW (nx Try.prog) mv gdP 54 V27 o27_15 (fun e w => Q .ret e w) o27_15.toList [] e e w) := by rw [(by kernel_rfl : c27_21 = .seq (.region 15 o27_15 false) Code.ret), W3_seq_reg]; simp only [W3_ret, W3_skip, W3_exit, W3_label]
theorem c27_20_v : opV V27 (.tmp 53) = true := by kernel_rfl
theorem c27_20_s (hw : Cur w) : W3 Try.prog 54 V27 c27_20 Q e w = (condP (ev e (.tmp 53)) (W3 Try.prog 54 V27 c27_21 Q e w) (Q .normal e w)) := by rw [(by kernel_rfl : c27_20 = .cond (.tmp 53) c27_21 Code.skip), W3_cond, c27_20_v, cond_true]; simp only [W3_ret, W3_skip, W3_exit, W3_label]
theorem c27_19_s (hw : Cur w) : W3 Try.prog 54 V27 c27_19 Q e w = (drawGo3 (nx Try.prog) (takeP Try.prog) mv gdP gdT 54 V27 o27_14 (puK o27_14) (fun e w => W3 Try.prog 54 V27 c27_20 Q e w) o27_14.size [] (Array.replicate o27_14.size false) [] e e w.drew) := by rw [(by kernel_rfl : c27_19 = .seq (.region 14 o27_14 true) c27_20), W3_seq_regD]
theorem c27_18_s (hw : Cur w) : W3 Try.prog 54 V27 c27_18 Q e w = (W3 Try.prog 54 V27 c27_19 (blockQ 5 Q) e w) := by rw [(by kernel_rfl : c27_18 = .block 5 c27_19), W3_block]
theorem c27_16_s (hw : Cur w) : W3 Try.prog 54 V27 c27_16 Q e w = (W3 Try.prog 54 V27 c27_18 (seqQ (fun e w => W3 Try.prog 54 V27 c27_17 Q e w) Q) e w) := by rw [(by kernel_rfl : c27_16 = .seq c27_18 c27_17), W3_seq]
theorem o27_12_eq : opsW N M G 54 V27 o27_12 k o27_12.toList [] e e w =
    (M (e 5) fun t40 =>
    M (e 4) fun t41 =>
    N (xv (xbin BinOp.lss 3 (Operand.tmp 40) (Operand.tmp 41) t40 t41)) w fun t42 w =>
    k (Env.p e 42 t42) w) := nr (by kernel_rfl)
theorem c27_23_v : opV V27 (.tmp 42) = true := by kernel_rfl
theorem c27_23_s (hw : Cur w) : W3 Try.prog 54 V27 c27_23 Q e w = (condP (ev e (.tmp 42)) (Q .normal e w) (Q (.exit 4) e w)) := by rw [(by kernel_rfl : c27_23 = .cond (.tmp 42) Code.skip (Code.exit 4)), W3_cond, c27_23_v, cond_true]; simp only [W3_ret, W3_skip, W3_exit, W3_label]
theorem c27_22_s (hw : Cur w) : W3 Try.prog 54 V27 c27_22 Q e w = (opsW (nx Try.prog) mv gdP 54 V27 o27_12 (fun e w => W3 Try.prog 54 V27 c27_23 Q e w) o27_12.toList [] e e w) := by rw [(by kernel_rfl : c27_22 = .seq (.region 12 o27_12 false) c27_23), W3_seq_reg]
theorem c27_15_s (hw : Cur w) : W3 Try.prog 54 V27 c27_15 Q e w = (W3 Try.prog 54 V27 c27_22 (seqQ (fun e w => W3 Try.prog 54 V27 c27_16 Q e w) Q) e w) := by rw [(by kernel_rfl : c27_15 = .seq c27_22 c27_16), W3_seq]
theorem c27_14_s (hw : Cur w) : W3 Try.prog 54 V27 c27_14 Q e w = (LoopP (fun e w k => W3 Try.prog 54 V27 c27_15 (seqQ k Q) e w) e w) := by rw [(by kernel_rfl : c27_14 = .loop c27_15), W3_loop]
theorem c27_13_s (hw : Cur w) : W3 Try.prog 54 V27 c27_13 Q e w = (W3 Try.prog 54 V27 c27_14 (blockQ 4 Q) e w) := by rw [(by kernel_rfl : c27_13 = .block 4 c27_14), W3_block]
theorem c27_12_s (hw : Cur w) : W3 Try.prog 54 V27 c27_12 Q e w = (opsW (nx Try.prog) mv gdP 54 V27 o27_11 (fun e w => W3 Try.prog 54 V27 c27_13 Q e w) o27_11.toList [] e e w) := by rw [(by kernel_rfl : c27_12 = .seq (.region 11 o27_11 false) c27_13), W3_seq_reg]
theorem c27_11_s (hw : Cur w) : W3 Try.prog 54 V27 c27_11 Q e w = (W3 Try.prog 54 V27 c27_12 (blockQ 3 Q) e w) := by rw [(by kernel_rfl : c27_11 = .block 3 c27_12), W3_block]
theorem c27_9_s (hw : Cur w) : W3 Try.prog 54 V27 c27_9 Q e w = (W3 Try.prog 54 V27 c27_11 (seqQ (fun e w => W3 Try.prog 54 V27 c27_10 Q e w) Q) e w) := by rw [(by kernel_rfl : c27_9 = .seq c27_11 c27_10), W3_seq]
theorem o27_9_eq : opsW N M G 54 V27 o27_9 k o27_9.toList [] e e w =
    (M (e 4) fun t34 =>
    M (e 0) fun t35 =>
    N (builtin Builtin.len #[30] 3 ([false]).toArray ([t35]).toArray) w fun t36 w =>
    N (xv (xbin BinOp.lss 3 (Operand.tmp 34) (Operand.tmp 36) t34 t36)) w fun t37 w =>
    k (Env.p e 37 t37) w) := nr (by kernel_rfl)
theorem c27_25_v : opV V27 (.tmp 37) = true := by kernel_rfl
theorem c27_25_s (hw : Cur w) : W3 Try.prog 54 V27 c27_25 Q e w = (condP (ev e (.tmp 37)) (Q .normal e w) (Q (.exit 2) e w)) := by rw [(by kernel_rfl : c27_25 = .cond (.tmp 37) Code.skip (Code.exit 2)), W3_cond, c27_25_v, cond_true]; simp only [W3_ret, W3_skip, W3_exit, W3_label]
theorem c27_24_s (hw : Cur w) : W3 Try.prog 54 V27 c27_24 Q e w = (opsW (nx Try.prog) mv gdP 54 V27 o27_9 (fun e w => W3 Try.prog 54 V27 c27_25 Q e w) o27_9.toList [] e e w) := by rw [(by kernel_rfl : c27_24 = .seq (.region 9 o27_9 false) c27_25), W3_seq_reg]
theorem c27_8_s (hw : Cur w) : W3 Try.prog 54 V27 c27_8 Q e w = (W3 Try.prog 54 V27 c27_24 (seqQ (fun e w => W3 Try.prog 54 V27 c27_9 Q e w) Q) e w) := by rw [(by kernel_rfl : c27_8 = .seq c27_24 c27_9), W3_seq]
theorem c27_7_s (hw : Cur w) : W3 Try.prog 54 V27 c27_7 Q e w = (LoopP (fun e w k => W3 Try.prog 54 V27 c27_8 (seqQ k Q) e w) e w) := by rw [(by kernel_rfl : c27_7 = .loop c27_8), W3_loop]
theorem c27_6_s (hw : Cur w) : W3 Try.prog 54 V27 c27_6 Q e w = (W3 Try.prog 54 V27 c27_7 (blockQ 2 Q) e w) := by rw [(by kernel_rfl : c27_6 = .block 2 c27_7), W3_block]
theorem c27_5_s (hw : Cur w) : W3 Try.prog 54 V27 c27_5 Q e w = (opsW (nx Try.prog) mv gdP 54 V27 o27_8 (fun e w => W3 Try.prog 54 V27 c27_6 Q e w) o27_8.toList [] e e w) := by rw [(by kernel_rfl : c27_5 = .seq (.region 8 o27_8 false) c27_6), W3_seq_reg]
theorem c27_3_s (hw : Cur w) : W3 Try.prog 54 V27 c27_3 Q e w = (W3 Try.prog 54 V27 c27_5 (seqQ (fun e w => W3 Try.prog 54 V27 c27_4 Q e w) Q) e w) := by rw [(by kernel_rfl : c27_3 = .seq c27_5 c27_4), W3_seq]
theorem o27_3_eq : opsW N M G 54 V27 o27_3 k o27_3.toList [] e e w =
    (M (Value.int IntKind.i64 0) fun t3 =>
    k (Env.p e 3 t3) w) := nr (by kernel_rfl)
theorem o27_5_eq : opsW N M G 54 V27 o27_5 k o27_5.toList [] e e w =
    (M (e 3) fun t18 =>
    N (xv (xbin BinOp.add 3 (Operand.tmp 18) (Operand.const (Value.int IntKind.i64 1)) t18 (Value.int IntKind.i64 1))) w fun t19 w =>
    M t19 fun t3 =>
    k (Env.p e 3 t3) w) := nr (by kernel_rfl)
theorem c27_31_s (hw : Cur w) : W3 Try.prog 54 V27 c27_31 Q e w = (opsW (nx Try.prog) mv gdP 54 V27 o27_5 (fun e w => Q .normal e w) o27_5.toList [] e e w) := by rw [(by kernel_rfl : c27_31 = (.region 5 o27_5 false)), W3_reg]
theorem o27_6_eq : opsW N M G 54 V27 o27_6 k o27_6.toList [] e e w =
    (M (e 0) fun t20 =>
    M (e 3) fun t21 =>
    N (xv (Instr.indexAt 30 t20 t21)) w fun t22 w =>
    N (xv (Instr.loadAt 9 t22)) w fun t23 w =>
    N (builtin Builtin.len #[9] 3 ([false]).toArray ([t23]).toArray) w fun t24 w =>
    N (xv (xbin BinOp.lss 3 (Operand.tmp 24) (Operand.const (Value.int IntKind.i64 1)) t24 (Value.int IntKind.i64 1))) w fun t25 w =>
    M t25 fun t26 =>
    G (isB t26 false) (fun K => M (e 0) fun v => K v w) (fun t27 w =>
    G (isB t26 false) (fun K => M (e 3) fun v => K v w) (fun t28 w =>
    G (isB t26 false) (fun K => N (xv (Instr.indexAt 30 t27 t28)) w K) (fun t29 w =>
    G (isB t26 false) (fun K => N (xv (Instr.loadAt 9 t29)) w K) (fun t30 w =>
    G (isB t26 false) (fun K => N (builtin Builtin.len #[9] 3 ([false]).toArray ([t30]).toArray) w K) (fun t31 w =>
    G (isB t26 false) (fun K => N (xv (xbin BinOp.gtr 3 (Operand.tmp 31) (Operand.const (Value.int IntKind.i64 32)) t31 (Value.int IntKind.i64 32))) w K) (fun t32 w =>
    N (xpick t26 (Value.bool true) t32) w fun t33 w =>
    k (Env.p e 33 t33) w) w) w) w) w) w) w) := nr (by kernel_rfl)
theorem o27_7_eq : opsW N M G 54 V27 o27_7 k o27_7.toList [] e e w =
    (M (Value.int IntKind.i64 1) fun t2 =>
    k (Env.p e 2 t2) w) := nr (by kernel_rfl)
theorem c27_35_s (hw : Cur w) : W3 Try.prog 54 V27 c27_35 Q e w = (opsW (nx Try.prog) mv gdP 54 V27 o27_7 (fun e w => Q .ret e w) o27_7.toList [] e e w) := by rw [(by kernel_rfl : c27_35 = .seq (.region 7 o27_7 false) Code.ret), W3_seq_reg]; simp only [W3_ret, W3_skip, W3_exit, W3_label]
theorem c27_34_v : opV V27 (.tmp 33) = true := by kernel_rfl
theorem c27_34_s (hw : Cur w) : W3 Try.prog 54 V27 c27_34 Q e w = (condP (ev e (.tmp 33)) (W3 Try.prog 54 V27 c27_35 Q e w) (Q .normal e w)) := by rw [(by kernel_rfl : c27_34 = .cond (.tmp 33) c27_35 Code.skip), W3_cond, c27_34_v, cond_true]; simp only [W3_ret, W3_skip, W3_exit, W3_label]
theorem c27_33_s (hw : Cur w) : W3 Try.prog 54 V27 c27_33 Q e w = (opsW (nx Try.prog) mv gdP 54 V27 o27_6 (fun e w => W3 Try.prog 54 V27 c27_34 Q e w) o27_6.toList [] e e w) := by rw [(by kernel_rfl : c27_33 = .seq (.region 6 o27_6 false) c27_34), W3_seq_reg]
theorem c27_32_s (hw : Cur w) : W3 Try.prog 54 V27 c27_32 Q e w = (W3 Try.prog 54 V27 c27_33 (blockQ 1 Q) e w) := by rw [(by kernel_rfl : c27_32 = .block 1 c27_33), W3_block]
theorem c27_30_s (hw : Cur w) : W3 Try.prog 54 V27 c27_30 Q e w = (W3 Try.prog 54 V27 c27_32 (seqQ (fun e w => W3 Try.prog 54 V27 c27_31 Q e w) Q) e w) := by rw [(by kernel_rfl : c27_30 = .seq c27_32 c27_31), W3_seq]
theorem o27_4_eq : opsW N M G 54 V27 o27_4 k o27_4.toList [] e e w =
    (M (e 3) fun t14 =>
    M (e 0) fun t15 =>
    N (builtin Builtin.len #[30] 3 ([false]).toArray ([t15]).toArray) w fun t16 w =>
    N (xv (xbin BinOp.lss 3 (Operand.tmp 14) (Operand.tmp 16) t14 t16)) w fun t17 w =>
    k (Env.p e 17 t17) w) := nr (by kernel_rfl)
theorem c27_37_v : opV V27 (.tmp 17) = true := by kernel_rfl
theorem c27_37_s (hw : Cur w) : W3 Try.prog 54 V27 c27_37 Q e w = (condP (ev e (.tmp 17)) (Q .normal e w) (Q (.exit 0) e w)) := by rw [(by kernel_rfl : c27_37 = .cond (.tmp 17) Code.skip (Code.exit 0)), W3_cond, c27_37_v, cond_true]; simp only [W3_ret, W3_skip, W3_exit, W3_label]
theorem c27_36_s (hw : Cur w) : W3 Try.prog 54 V27 c27_36 Q e w = (opsW (nx Try.prog) mv gdP 54 V27 o27_4 (fun e w => W3 Try.prog 54 V27 c27_37 Q e w) o27_4.toList [] e e w) := by rw [(by kernel_rfl : c27_36 = .seq (.region 4 o27_4 false) c27_37), W3_seq_reg]
theorem c27_29_s (hw : Cur w) : W3 Try.prog 54 V27 c27_29 Q e w = (W3 Try.prog 54 V27 c27_36 (seqQ (fun e w => W3 Try.prog 54 V27 c27_30 Q e w) Q) e w) := by rw [(by kernel_rfl : c27_29 = .seq c27_36 c27_30), W3_seq]
theorem c27_28_s (hw : Cur w) : W3 Try.prog 54 V27 c27_28 Q e w = (LoopP (fun e w k => W3 Try.prog 54 V27 c27_29 (seqQ k Q) e w) e w) := by rw [(by kernel_rfl : c27_28 = .loop c27_29), W3_loop]
theorem c27_27_s (hw : Cur w) : W3 Try.prog 54 V27 c27_27 Q e w = (W3 Try.prog 54 V27 c27_28 (blockQ 0 Q) e w) := by rw [(by kernel_rfl : c27_27 = .block 0 c27_28), W3_block]
theorem c27_26_s (hw : Cur w) : W3 Try.prog 54 V27 c27_26 Q e w = (opsW (nx Try.prog) mv gdP 54 V27 o27_3 (fun e w => W3 Try.prog 54 V27 c27_27 Q e w) o27_3.toList [] e e w) := by rw [(by kernel_rfl : c27_26 = .seq (.region 3 o27_3 false) c27_27), W3_seq_reg]
theorem c27_2_s (hw : Cur w) : W3 Try.prog 54 V27 c27_2 Q e w = (W3 Try.prog 54 V27 c27_26 (seqQ (fun e w => W3 Try.prog 54 V27 c27_3 Q e w) Q) e w) := by rw [(by kernel_rfl : c27_2 = .seq c27_26 c27_3), W3_seq]
theorem o27_1_eq : opsW N M G 54 V27 o27_1 k o27_1.toList [] e e w =
    (M (e 0) fun t6 =>
    N (builtin Builtin.len #[30] 3 ([false]).toArray ([t6]).toArray) w fun t7 w =>
    N (xv (xbin BinOp.lss 3 (Operand.tmp 7) (Operand.const (Value.int IntKind.i64 1)) t7 (Value.int IntKind.i64 1))) w fun t8 w =>
    M t8 fun t9 =>
    G (isB t9 false) (fun K => M (e 0) fun v => K v w) (fun t10 w =>
    G (isB t9 false) (fun K => N (builtin Builtin.len #[30] 3 ([false]).toArray ([t10]).toArray) w K) (fun t11 w =>
    G (isB t9 false) (fun K => N (xv (xbin BinOp.gtr 3 (Operand.tmp 11) (Operand.const (Value.int IntKind.i64 8)) t11 (Value.int IntKind.i64 8))) w K) (fun t12 w =>
    N (xpick t9 (Value.bool true) t12) w fun t13 w =>
    k (Env.p e 13 t13) w) w) w) w) := nr (by kernel_rfl)
theorem o27_2_eq : opsW N M G 54 V27 o27_2 k o27_2.toList [] e e w =
    (M (Value.int IntKind.i64 1) fun t2 =>
    k (Env.p e 2 t2) w) := nr (by kernel_rfl)
theorem c27_40_s (hw : Cur w) : W3 Try.prog 54 V27 c27_40 Q e w = (opsW (nx Try.prog) mv gdP 54 V27 o27_2 (fun e w => Q .ret e w) o27_2.toList [] e e w) := by rw [(by kernel_rfl : c27_40 = .seq (.region 2 o27_2 false) Code.ret), W3_seq_reg]; simp only [W3_ret, W3_skip, W3_exit, W3_label]
theorem c27_39_v : opV V27 (.tmp 13) = true := by kernel_rfl
theorem c27_39_s (hw : Cur w) : W3 Try.prog 54 V27 c27_39 Q e w = (condP (ev e (.tmp 13)) (W3 Try.prog 54 V27 c27_40 Q e w) (Q .normal e w)) := by rw [(by kernel_rfl : c27_39 = .cond (.tmp 13) c27_40 Code.skip), W3_cond, c27_39_v, cond_true]; simp only [W3_ret, W3_skip, W3_exit, W3_label]
theorem c27_38_s (hw : Cur w) : W3 Try.prog 54 V27 c27_38 Q e w = (opsW (nx Try.prog) mv gdP 54 V27 o27_1 (fun e w => W3 Try.prog 54 V27 c27_39 Q e w) o27_1.toList [] e e w) := by rw [(by kernel_rfl : c27_38 = .seq (.region 1 o27_1 false) c27_39), W3_seq_reg]
theorem c27_1_s (hw : Cur w) : W3 Try.prog 54 V27 c27_1 Q e w = (W3 Try.prog 54 V27 c27_38 (seqQ (fun e w => W3 Try.prog 54 V27 c27_2 Q e w) Q) e w) := by rw [(by kernel_rfl : c27_1 = .seq c27_38 c27_2), W3_seq]
theorem c27_s (hw : Cur w) : W3 Try.prog 54 V27 c27 Q e w = (opsW (nx Try.prog) mv gdP 54 V27 o27_0 (fun e w => W3 Try.prog 54 V27 c27_1 Q e w) o27_0.toList [] e e w) := by rw [(by kernel_rfl : c27 = .seq (.region 0 o27_0 false) c27_1), W3_seq_reg]
theorem call27 {a0 : Value} {w : World} {R : Value → World → Prop} (h : W3 Try.prog 54 V27 c27 (retQ Try.prog [.tmp 2] R) (argE [a0]) w) : CallsN Try.prog 27 [a0] w R :=
  callsN_of_W3 (c := c27) (rs := [.tmp 2]) V27 Try.ntmps27 (by rw [Try.results27]) mixed Try.func27 (by kernel_rfl) (by kernel_rfl) (by kernel_rfl) (by kernel_rfl) (by simp) h
noncomputable def hk27 := And.intro (@o27_0_eq) <| And.intro (@o27_16_eq) <| And.intro (@c27_4_s) <| And.intro (@o27_8_eq) <| And.intro (@o27_10_eq) <| And.intro (@c27_10_s) <| And.intro (@o27_11_eq) <| And.intro (@o27_13_eq) <| And.intro (@c27_17_s) <| And.intro (@o27_14_eq) <| And.intro (@o27_15_eq) <| And.intro (@c27_21_s) <| And.intro (@c27_20_s) <| And.intro (@c27_19_s) <| And.intro (@c27_18_s) <| And.intro (@c27_16_s) <| And.intro (@o27_12_eq) <| And.intro (@c27_23_s) <| And.intro (@c27_22_s) <| And.intro (@c27_15_s) <| And.intro (@c27_14_s) <| And.intro (@c27_13_s) <| And.intro (@c27_12_s) <| And.intro (@c27_11_s) <| And.intro (@c27_9_s) <| And.intro (@o27_9_eq) <| And.intro (@c27_25_s) <| And.intro (@c27_24_s) <| And.intro (@c27_8_s) <| And.intro (@c27_7_s) <| And.intro (@c27_6_s) <| And.intro (@c27_5_s) <| And.intro (@c27_3_s) <| And.intro (@o27_3_eq) <| And.intro (@o27_5_eq) <| And.intro (@c27_31_s) <| And.intro (@o27_6_eq) <| And.intro (@o27_7_eq) <| And.intro (@c27_35_s) <| And.intro (@c27_34_s) <| And.intro (@c27_33_s) <| And.intro (@c27_32_s) <| And.intro (@c27_30_s) <| And.intro (@o27_4_eq) <| And.intro (@c27_37_s) <| And.intro (@c27_36_s) <| And.intro (@c27_29_s) <| And.intro (@c27_28_s) <| And.intro (@c27_27_s) <| And.intro (@c27_26_s) <| And.intro (@c27_2_s) <| And.intro (@o27_1_eq) <| And.intro (@o27_2_eq) <| And.intro (@c27_40_s) <| And.intro (@c27_39_s) <| And.intro (@c27_38_s) <| And.intro (@c27_1_s) <| @c27_s
-- K27: ↓hk27
/-! ### vouch/vouchlaw06.StreamPlays -/
def V4 : Nat → Bool := fun i => [0, 2, 3, 4, 5, 7, 14, 34].elem i
noncomputable def c4 : Code := (Try.f4.body.getD .skip)
noncomputable def o4_0 : Array Oper := rO (cL c4)
noncomputable def c4_1 : Code := (cR c4)
noncomputable def c4_2 : Code := (cR c4_1)
noncomputable def o4_3 : Array Oper := rO (cL c4_2)
noncomputable def c4_3 : Code := (cR c4_2)
noncomputable def c4_4 : Code := (cR c4_3)
noncomputable def o4_9 : Array Oper := rO (cL c4_4)
noncomputable def c4_5 : Code := (cL c4_3)
noncomputable def o4_4 : Array Oper := rO (cL c4_5)
noncomputable def c4_6 : Code := (cR c4_5)
noncomputable def c4_7 : Code := (cL c4_6)
noncomputable def c4_8 : Code := (cL c4_7)
noncomputable def c4_9 : Code := (cR c4_8)
noncomputable def c4_10 : Code := (cR c4_9)
noncomputable def o4_6 : Array Oper := rO c4_10
noncomputable def c4_11 : Code := (cL c4_9)
noncomputable def c4_12 : Code := (cL c4_11)
noncomputable def o4_7 : Array Oper := rO (cL c4_12)
noncomputable def c4_13 : Code := (cR c4_12)
noncomputable def c4_14 : Code := (cL c4_13)
noncomputable def o4_8 : Array Oper := rO (cL c4_14)
noncomputable def c4_15 : Code := (cL c4_8)
noncomputable def o4_5 : Array Oper := rO (cL c4_15)
noncomputable def c4_16 : Code := (cR c4_15)
noncomputable def c4_17 : Code := (cL c4_1)
noncomputable def o4_1 : Array Oper := rO (cL c4_17)
noncomputable def c4_18 : Code := (cR c4_17)
noncomputable def c4_19 : Code := (cL c4_18)
noncomputable def o4_2 : Array Oper := rO (cL c4_19)
theorem o4_0_eq : opsW N M G 35 V4 o4_0 k o4_0.toList [] e e w =
    (M (Value.bool false) fun t2 =>
    k (Env.p e 2 t2) w) := nr (by kernel_rfl)
theorem o4_3_eq : opsW N M G 35 V4 o4_3 k o4_3.toList [] e e w =
    (N (xcall (Value.func (Fn.func 9) #[] #[]) []) w fun t8 w =>
    N (xv (Instr.build 38 ([]).toArray)) w fun t9 w =>
    N (xv (Instr.box 38 t9)) w fun t10 w =>
    M t8 fun t3 =>
    M t10 fun t4 =>
    k (Env.p (Env.p e 3 t3) 4 t4) w) := nr (by kernel_rfl)
theorem o4_9_eq : opsW N M G 35 V4 o4_9 k o4_9.toList [] e e w =
    (M (Value.bool true) fun t2 =>
    k (Env.p e 2 t2) w) := nr (by kernel_rfl)
theorem c4_4_s (hw : Cur w) : W3 Try.prog 35 V4 c4_4 Q e w = (opsW (nx Try.prog) mv gdP 35 V4 o4_9 (fun e w => Q .ret e w) o4_9.toList [] e e w) := by rw [(by kernel_rfl : c4_4 = .seq (.region 9 o4_9 false) Code.ret), W3_seq_reg]; simp only [W3_ret, W3_skip, W3_exit, W3_label]
theorem o4_4_eq : opsW N M G 35 V4 o4_4 k o4_4.toList [] e e w =
    (M (Value.int IntKind.i64 0) fun t5 =>
    k (Env.p e 5 t5) w) := nr (by kernel_rfl)
theorem o4_6_eq : opsW N M G 35 V4 o4_6 k o4_6.toList [] e e w =
    (M (e 5) fun t15 =>
    N (xv (xbin BinOp.add 3 (Operand.tmp 15) (Operand.const (Value.int IntKind.i64 1)) t15 (Value.int IntKind.i64 1))) w fun t16 w =>
    M t16 fun t5 =>
    k (Env.p e 5 t5) w) := nr (by kernel_rfl)
theorem c4_10_s (hw : Cur w) : W3 Try.prog 35 V4 c4_10 Q e w = (opsW (nx Try.prog) mv gdP 35 V4 o4_6 (fun e w => Q .normal e w) o4_6.toList [] e e w) := by rw [(by kernel_rfl : c4_10 = (.region 6 o4_6 false)), W3_reg]
theorem o4_7_eq : drawGo3 N T3 M G H 35 V4 o4_7 (puK o4_7) k o4_7.size [] (Array.replicate o4_7.size false) [] e e w =
    (M (e 3) fun t17 =>
    M (e 4) fun t18 =>
    M (e 0) fun t19 =>
    M (e 5) fun t20 =>
    T3 (FrX none w) (xv (Instr.indexAt 34 t19 t20)) fun t21 =>
    T3 (FrX (some []) w) (xv (Instr.loadAt 41 t21)) fun t22 =>
    N (xcall (Value.func (Fn.func 12) #[] #[]) [t17, t18, t22]) w fun t23 w6 =>
    T3 (FrX none w6) (xv (Op.unary UnOp.not t23)) fun t24 =>
    M t24 fun t25 =>
    H (isB t25 false) (fun K => M (e 3) K) (fun t26 =>
    H (isB t25 false) (fun K => M (e 4) K) (fun t28 =>
    H (isB t25 false) (fun K => T3 (FrX none w6) (xnil t28) K) (fun t29 =>
    H (isB t25 false) (fun K => T3 (FrX none w6) (xv (Instr.fieldAt 38 t29 0)) K) (fun t30 =>
    H (isB t25 false) (fun K => T3 (FrX (some []) w6) (xv (Instr.loadAt 36 t30)) K) (fun t31 =>
    H (isB t25 false) (fun K => T3 (FrX (some []) w6) (builtin Builtin.len #[36] 3 ([false]).toArray ([t31]).toArray) K) (fun t32 =>
    G (isB t25 false) (fun K => N (xcall (Value.func (Fn.func 13) #[] #[]) [t26]) w6 K) (fun t27 w10 =>
    FrX (some []) w6 w10 ∧ (FrX (some []) w6 w10 ∧ (H (isB t25 false) (fun K => T3 (FrX none w10) (xv (xbin BinOp.neq 2 (Operand.tmp 27) (Operand.tmp 32) t27 t32)) K) (fun t33 =>
    T3 (FrX none w10) (xpick t25 (Value.bool true) t33) fun t34 =>
    (k (Env.p e 34 t34)) w10)))) w6))))))) := nr (by kernel_rfl)
theorem o4_8_eq : opsW N M G 35 V4 o4_8 k o4_8.toList [] e e w =
    (M (Value.bool false) fun t2 =>
    k (Env.p e 2 t2) w) := nr (by kernel_rfl)
theorem c4_14_s (hw : Cur w) : W3 Try.prog 35 V4 c4_14 Q e w = (opsW (nx Try.prog) mv gdP 35 V4 o4_8 (fun e w => Q .ret e w) o4_8.toList [] e e w) := by rw [(by kernel_rfl : c4_14 = .seq (.region 8 o4_8 false) Code.ret), W3_seq_reg]; simp only [W3_ret, W3_skip, W3_exit, W3_label]
theorem c4_13_v : opV V4 (.tmp 34) = true := by kernel_rfl
theorem c4_13_s (hw : Cur w) : W3 Try.prog 35 V4 c4_13 Q e w = (condP (ev e (.tmp 34)) (W3 Try.prog 35 V4 c4_14 Q e w) (Q .normal e w)) := by rw [(by kernel_rfl : c4_13 = .cond (.tmp 34) c4_14 Code.skip), W3_cond, c4_13_v, cond_true]; simp only [W3_ret, W3_skip, W3_exit, W3_label]
theorem c4_12_s (hw : Cur w) : W3 Try.prog 35 V4 c4_12 Q e w = (drawGo3 (nx Try.prog) (takeP Try.prog) mv gdP gdT 35 V4 o4_7 (puK o4_7) (fun e w => W3 Try.prog 35 V4 c4_13 Q e w) o4_7.size [] (Array.replicate o4_7.size false) [] e e w.drew) := by rw [(by kernel_rfl : c4_12 = .seq (.region 7 o4_7 true) c4_13), W3_seq_regD]
theorem c4_11_s (hw : Cur w) : W3 Try.prog 35 V4 c4_11 Q e w = (W3 Try.prog 35 V4 c4_12 (blockQ 1 Q) e w) := by rw [(by kernel_rfl : c4_11 = .block 1 c4_12), W3_block]
theorem c4_9_s (hw : Cur w) : W3 Try.prog 35 V4 c4_9 Q e w = (W3 Try.prog 35 V4 c4_11 (seqQ (fun e w => W3 Try.prog 35 V4 c4_10 Q e w) Q) e w) := by rw [(by kernel_rfl : c4_9 = .seq c4_11 c4_10), W3_seq]
theorem o4_5_eq : opsW N M G 35 V4 o4_5 k o4_5.toList [] e e w =
    (M (e 5) fun t11 =>
    M (e 0) fun t12 =>
    N (builtin Builtin.len #[34] 3 ([false]).toArray ([t12]).toArray) w fun t13 w =>
    N (xv (xbin BinOp.lss 3 (Operand.tmp 11) (Operand.tmp 13) t11 t13)) w fun t14 w =>
    k (Env.p e 14 t14) w) := nr (by kernel_rfl)
theorem c4_16_v : opV V4 (.tmp 14) = true := by kernel_rfl
theorem c4_16_s (hw : Cur w) : W3 Try.prog 35 V4 c4_16 Q e w = (condP (ev e (.tmp 14)) (Q .normal e w) (Q (.exit 0) e w)) := by rw [(by kernel_rfl : c4_16 = .cond (.tmp 14) Code.skip (Code.exit 0)), W3_cond, c4_16_v, cond_true]; simp only [W3_ret, W3_skip, W3_exit, W3_label]
theorem c4_15_s (hw : Cur w) : W3 Try.prog 35 V4 c4_15 Q e w = (opsW (nx Try.prog) mv gdP 35 V4 o4_5 (fun e w => W3 Try.prog 35 V4 c4_16 Q e w) o4_5.toList [] e e w) := by rw [(by kernel_rfl : c4_15 = .seq (.region 5 o4_5 false) c4_16), W3_seq_reg]
theorem c4_8_s (hw : Cur w) : W3 Try.prog 35 V4 c4_8 Q e w = (W3 Try.prog 35 V4 c4_15 (seqQ (fun e w => W3 Try.prog 35 V4 c4_9 Q e w) Q) e w) := by rw [(by kernel_rfl : c4_8 = .seq c4_15 c4_9), W3_seq]
theorem c4_7_s (hw : Cur w) : W3 Try.prog 35 V4 c4_7 Q e w = (LoopP (fun e w k => W3 Try.prog 35 V4 c4_8 (seqQ k Q) e w) e w) := by rw [(by kernel_rfl : c4_7 = .loop c4_8), W3_loop]
theorem c4_6_s (hw : Cur w) : W3 Try.prog 35 V4 c4_6 Q e w = (W3 Try.prog 35 V4 c4_7 (blockQ 0 Q) e w) := by rw [(by kernel_rfl : c4_6 = .block 0 c4_7), W3_block]
theorem c4_5_s (hw : Cur w) : W3 Try.prog 35 V4 c4_5 Q e w = (opsW (nx Try.prog) mv gdP 35 V4 o4_4 (fun e w => W3 Try.prog 35 V4 c4_6 Q e w) o4_4.toList [] e e w) := by rw [(by kernel_rfl : c4_5 = .seq (.region 4 o4_4 false) c4_6), W3_seq_reg]
theorem c4_3_s (hw : Cur w) : W3 Try.prog 35 V4 c4_3 Q e w = (W3 Try.prog 35 V4 c4_5 (seqQ (fun e w => W3 Try.prog 35 V4 c4_4 Q e w) Q) e w) := by rw [(by kernel_rfl : c4_3 = .seq c4_5 c4_4), W3_seq]
theorem c4_2_s (hw : Cur w) : W3 Try.prog 35 V4 c4_2 Q e w = (opsW (nx Try.prog) mv gdP 35 V4 o4_3 (fun e w => W3 Try.prog 35 V4 c4_3 Q e w) o4_3.toList [] e e w) := by rw [(by kernel_rfl : c4_2 = .seq (.region 3 o4_3 false) c4_3), W3_seq_reg]
theorem o4_1_eq : opsW N M G 35 V4 o4_1 k o4_1.toList [] e e w =
    (N (xcall (Value.func (Fn.func 8) #[] #[]) []) w fun t6 w =>
    N (xv (Op.unary UnOp.not t6)) w fun t7 w =>
    k (Env.p e 7 t7) w) := nr (by kernel_rfl)
theorem o4_2_eq : opsW N M G 35 V4 o4_2 k o4_2.toList [] e e w =
    (M (Value.bool false) fun t2 =>
    k (Env.p e 2 t2) w) := nr (by kernel_rfl)
theorem c4_19_s (hw : Cur w) : W3 Try.prog 35 V4 c4_19 Q e w = (opsW (nx Try.prog) mv gdP 35 V4 o4_2 (fun e w => Q .ret e w) o4_2.toList [] e e w) := by rw [(by kernel_rfl : c4_19 = .seq (.region 2 o4_2 false) Code.ret), W3_seq_reg]; simp only [W3_ret, W3_skip, W3_exit, W3_label]
theorem c4_18_v : opV V4 (.tmp 7) = true := by kernel_rfl
theorem c4_18_s (hw : Cur w) : W3 Try.prog 35 V4 c4_18 Q e w = (condP (ev e (.tmp 7)) (W3 Try.prog 35 V4 c4_19 Q e w) (Q .normal e w)) := by rw [(by kernel_rfl : c4_18 = .cond (.tmp 7) c4_19 Code.skip), W3_cond, c4_18_v, cond_true]; simp only [W3_ret, W3_skip, W3_exit, W3_label]
theorem c4_17_s (hw : Cur w) : W3 Try.prog 35 V4 c4_17 Q e w = (opsW (nx Try.prog) mv gdP 35 V4 o4_1 (fun e w => W3 Try.prog 35 V4 c4_18 Q e w) o4_1.toList [] e e w) := by rw [(by kernel_rfl : c4_17 = .seq (.region 1 o4_1 false) c4_18), W3_seq_reg]
theorem c4_1_s (hw : Cur w) : W3 Try.prog 35 V4 c4_1 Q e w = (W3 Try.prog 35 V4 c4_17 (seqQ (fun e w => W3 Try.prog 35 V4 c4_2 Q e w) Q) e w) := by rw [(by kernel_rfl : c4_1 = .seq c4_17 c4_2), W3_seq]
theorem c4_s (hw : Cur w) : W3 Try.prog 35 V4 c4 Q e w = (opsW (nx Try.prog) mv gdP 35 V4 o4_0 (fun e w => W3 Try.prog 35 V4 c4_1 Q e w) o4_0.toList [] e e w) := by rw [(by kernel_rfl : c4 = .seq (.region 0 o4_0 false) c4_1), W3_seq_reg]
theorem call4 {a0 : Value} {w : World} {R : Value → World → Prop} (h : W3 Try.prog 35 V4 c4 (retQ Try.prog [.tmp 2] R) (argE [a0]) w) : CallsN Try.prog 4 [a0] w R :=
  callsN_of_W3 (c := c4) (rs := [.tmp 2]) V4 Try.ntmps4 (by rw [Try.results4]) mixed Try.func4 (by kernel_rfl) (by kernel_rfl) (by kernel_rfl) (by kernel_rfl) (by simp) h
noncomputable def hk4 := And.intro (@o4_0_eq) <| And.intro (@o4_3_eq) <| And.intro (@o4_9_eq) <| And.intro (@c4_4_s) <| And.intro (@o4_4_eq) <| And.intro (@o4_6_eq) <| And.intro (@c4_10_s) <| And.intro (@o4_7_eq) <| And.intro (@o4_8_eq) <| And.intro (@c4_14_s) <| And.intro (@c4_13_s) <| And.intro (@c4_12_s) <| And.intro (@c4_11_s) <| And.intro (@c4_9_s) <| And.intro (@o4_5_eq) <| And.intro (@c4_16_s) <| And.intro (@c4_15_s) <| And.intro (@c4_8_s) <| And.intro (@c4_7_s) <| And.intro (@c4_6_s) <| And.intro (@c4_5_s) <| And.intro (@c4_3_s) <| And.intro (@c4_2_s) <| And.intro (@o4_1_eq) <| And.intro (@o4_2_eq) <| And.intro (@c4_19_s) <| And.intro (@c4_18_s) <| And.intro (@c4_17_s) <| And.intro (@c4_1_s) <| @c4_s
-- K4: ↓hk4
/-! ### vouch/vouchlaw06.step -/
def V12 : Nat → Bool := fun i => [0, 1, 2, 5, 6, 7, 8, 9, 10, 11, 12, 13, 14, 15, 16, 17, 20, 21, 45, 60, 73, 94].elem i
noncomputable def c12 : Code := (Try.f12.body.getD .skip)
noncomputable def o12_0 : Array Oper := rO (cL c12)
noncomputable def c12_1 : Code := (cR c12)
noncomputable def c12_2 : Code := (cR c12_1)
noncomputable def o12_16 : Array Oper := rO (cL c12_2)
noncomputable def c12_3 : Code := (cR c12_2)
noncomputable def o12_17 : Array Oper := rO (cL c12_3)
noncomputable def c12_4 : Code := (cR c12_3)
noncomputable def o12_18 : Array Oper := rO (cL c12_4)
noncomputable def c12_5 : Code := (cL c12_1)
noncomputable def o12_1 : Array Oper := rO (cL c12_5)
noncomputable def c12_6 : Code := (cR c12_5)
noncomputable def c12_7 : Code := (cL c12_6)
noncomputable def o12_2 : Array Oper := rO (cL c12_7)
noncomputable def c12_8 : Code := (cR c12_7)
noncomputable def c12_9 : Code := (cL c12_8)
noncomputable def o12_3 : Array Oper := rO (cL c12_9)
noncomputable def c12_10 : Code := (cR c12_9)
noncomputable def o12_4 : Array Oper := rO (cL c12_10)
noncomputable def c12_11 : Code := (cR c12_10)
noncomputable def o12_5 : Array Oper := rO (cL c12_11)
noncomputable def c12_12 : Code := (cR c12_8)
noncomputable def o12_6 : Array Oper := rO (cL c12_12)
noncomputable def c12_13 : Code := (cR c12_12)
noncomputable def c12_14 : Code := (cL c12_13)
noncomputable def o12_7 : Array Oper := rO (cL c12_14)
noncomputable def c12_15 : Code := (cR c12_14)
noncomputable def c12_16 : Code := (cR c12_15)
noncomputable def o12_13 : Array Oper := rO (cL c12_16)
noncomputable def c12_17 : Code := (cL c12_15)
noncomputable def o12_8 : Array Oper := rO (cL c12_17)
noncomputable def c12_18 : Code := (cR c12_17)
noncomputable def c12_19 : Code := (cL c12_18)
noncomputable def c12_20 : Code := (cL c12_19)
noncomputable def c12_21 : Code := (cR c12_20)
noncomputable def c12_22 : Code := (cR c12_21)
noncomputable def o12_10 : Array Oper := rO c12_22
noncomputable def c12_23 : Code := (cL c12_21)
noncomputable def c12_24 : Code := (cL c12_23)
noncomputable def o12_11 : Array Oper := rO (cL c12_24)
noncomputable def c12_25 : Code := (cR c12_24)
noncomputable def c12_26 : Code := (cL c12_25)
noncomputable def o12_12 : Array Oper := rO (cL c12_26)
noncomputable def c12_27 : Code := (cL c12_20)
noncomputable def o12_9 : Array Oper := rO (cL c12_27)
noncomputable def c12_28 : Code := (cR c12_27)
noncomputable def c12_29 : Code := (cR c12_13)
noncomputable def o12_14 : Array Oper := rO (cL c12_29)
noncomputable def c12_30 : Code := (cR c12_29)
noncomputable def c12_31 : Code := (cL c12_30)
noncomputable def o12_15 : Array Oper := rO (cL c12_31)
theorem o12_0_eq : opsW N M G 135 V12 o12_0 k o12_0.toList [] e e w =
    (N (xv (Instr.box 41 (e 2))) w fun t5 w =>
    M (Value.bool false) fun t6 =>
    k (Env.p (Env.p e 5 t5) 6 t6) w) := nr (by kernel_rfl)
theorem o12_16_eq : opsW N M G 135 V12 o12_16 k o12_16.toList [] e e w =
    (M (e 0) fun t110 =>
    N (xv (Instr.fieldAt 41 (e 5) 2)) w fun t111 w =>
    N (xv (Instr.loadAt 9 t111)) w fun t112 w =>
    N (xv (Instr.fieldAt 41 (e 5) 3)) w fun t113 w =>
    N (xv (Instr.loadAt 2 t113)) w fun t114 w =>
    N (xcall (Value.func (Fn.func 11) #[] #[]) [t110, t112, t114]) w fun t115 w =>
    M t115 fun t109 =>
    N (xv (Instr.extract t109 0)) w fun t116 w =>
    N (xv (Instr.extract t109 1)) w fun t117 w =>
    M t116 fun t14 =>
    M t117 fun t15 =>
    k (Env.p (Env.p e 14 t14) 15 t15) w) := nr (by kernel_rfl)
theorem o12_17_eq : opsW N M G 135 V12 o12_17 k o12_17.toList [] e e w =
    (M (e 1) fun t119 =>
    N (xv (Instr.fieldAt 41 (e 5) 2)) w fun t120 w =>
    N (xv (Instr.loadAt 9 t120)) w fun t121 w =>
    N (xv (Instr.fieldAt 41 (e 5) 3)) w fun t122 w =>
    N (xv (Instr.loadAt 2 t122)) w fun t123 w =>
    N (xcall (Value.func (Fn.func 26) #[] #[]) [t119, t121, t123]) w fun t124 w =>
    M t124 fun t118 =>
    N (xv (Instr.extract t118 0)) w fun t125 w =>
    N (xv (Instr.extract t118 1)) w fun t126 w =>
    M t125 fun t16 =>
    M t126 fun t17 =>
    k (Env.p (Env.p e 16 t16) 17 t17) w) := nr (by kernel_rfl)
theorem o12_18_eq : opsW N M G 135 V12 o12_18 k o12_18.toList [] e e w =
    (M (e 14) fun t127 =>
    M (e 16) fun t128 =>
    N (xv (xbin BinOp.eql 2 (Operand.tmp 127) (Operand.tmp 128) t127 t128)) w fun t129 w =>
    M t129 fun t130 =>
    G (isB t130 true) (fun K => M (e 15) fun v => K v w) (fun t131 w =>
    G (isB t130 true) (fun K => M (e 17) fun v => K v w) (fun t132 w =>
    G (isB t130 true) (fun K => N (xv (xbin BinOp.eql 4 (Operand.tmp 131) (Operand.tmp 132) t131 t132)) w K) (fun t133 w =>
    N (xpick t130 t133 (Value.bool false)) w fun t134 w =>
    M t134 fun t6 =>
    k (Env.p e 6 t6) w) w) w) w) := nr (by kernel_rfl)
theorem c12_4_s (hw : Cur w) : W3 Try.prog 135 V12 c12_4 Q e w = (opsW (nx Try.prog) mv gdP 135 V12 o12_18 (fun e w => Q .ret e w) o12_18.toList [] e e w) := by rw [(by kernel_rfl : c12_4 = .seq (.region 18 o12_18 false) Code.ret), W3_seq_reg]; simp only [W3_ret, W3_skip, W3_exit, W3_label]
theorem c12_3_s (hw : Cur w) : W3 Try.prog 135 V12 c12_3 Q e w = (opsW (nx Try.prog) mv gdP 135 V12 o12_17 (fun e w => W3 Try.prog 135 V12 c12_4 Q e w) o12_17.toList [] e e w) := by rw [(by kernel_rfl : c12_3 = .seq (.region 17 o12_17 false) c12_4), W3_seq_reg]
theorem c12_2_s (hw : Cur w) : W3 Try.prog 135 V12 c12_2 Q e w = (opsW (nx Try.prog) mv gdP 135 V12 o12_16 (fun e w => W3 Try.prog 135 V12 c12_3 Q e w) o12_16.toList [] e e w) := by rw [(by kernel_rfl : c12_2 = .seq (.region 16 o12_16 false) c12_3), W3_seq_reg]
theorem o12_1_eq : opsW N M G 135 V12 o12_1 k o12_1.toList [] e e w =
    (N (xv (Instr.fieldAt 41 (e 5) 0)) w fun t18 w =>
    N (xv (Instr.loadAt 5 t18)) w fun t19 w =>
    N (xv (xbin BinOp.rem 5 (Operand.tmp 19) (Operand.const (Value.int IntKind.u8 4)) t19 (Value.int IntKind.u8 4))) w fun t20 w =>
    k (Env.p e 20 t20) w) := nr (by kernel_rfl)
theorem o12_2_eq : opsW N M G 135 V12 o12_2 k o12_2.toList [] e e w =
    (N (xv (xbin BinOp.eql 5 (Operand.tmp 20) (Operand.const (Value.int IntKind.u8 0)) (e 20) (Value.int IntKind.u8 0))) w fun t22 w =>
    M t22 fun t21 =>
    k (Env.p e 21 t21) w) := nr (by kernel_rfl)
theorem o12_3_eq : opsW N M G 135 V12 o12_3 k o12_3.toList [] e e w =
    (M (e 0) fun t24 =>
    N (xv (Instr.fieldAt 41 (e 5) 1)) w fun t25 w =>
    N (xv (Instr.loadAt 30 t25)) w fun t26 w =>
    N (xcall (Value.func (Fn.func 10) #[] #[]) [t24, t26]) w fun t27 w =>
    M t27 fun t23 =>
    N (xv (Instr.extract t23 0)) w fun t28 w =>
    N (xv (Instr.extract t23 1)) w fun t29 w =>
    M t28 fun t7 =>
    M t29 fun t8 =>
    k (Env.p (Env.p e 7 t7) 8 t8) w) := nr (by kernel_rfl)
theorem o12_4_eq : opsW N M G 135 V12 o12_4 k o12_4.toList [] e e w =
    (M (e 1) fun t31 =>
    N (xv (Instr.fieldAt 41 (e 5) 1)) w fun t32 w =>
    N (xv (Instr.loadAt 30 t32)) w fun t33 w =>
    N (xcall (Value.func (Fn.func 16) #[] #[]) [t31, t33]) w fun t34 w =>
    M t34 fun t30 =>
    N (xv (Instr.extract t30 0)) w fun t35 w =>
    N (xv (Instr.extract t30 1)) w fun t36 w =>
    M t35 fun t9 =>
    M t36 fun t10 =>
    k (Env.p (Env.p e 9 t9) 10 t10) w) := nr (by kernel_rfl)
theorem o12_5_eq : opsW N M G 135 V12 o12_5 k o12_5.toList [] e e w =
    (M (e 7) fun t37 =>
    M (e 9) fun t38 =>
    N (xv (xbin BinOp.eql 2 (Operand.tmp 37) (Operand.tmp 38) t37 t38)) w fun t39 w =>
    M t39 fun t40 =>
    G (isB t40 true) (fun K => M (e 8) fun v => K v w) (fun t41 w =>
    G (isB t40 true) (fun K => M (e 10) fun v => K v w) (fun t42 w =>
    G (isB t40 true) (fun K => N (xv (xbin BinOp.eql 3 (Operand.tmp 41) (Operand.tmp 42) t41 t42)) w K) (fun t43 w =>
    N (xpick t40 t43 (Value.bool false)) w fun t44 w =>
    M t44 fun t6 =>
    k (Env.p e 6 t6) w) w) w) w) := nr (by kernel_rfl)
theorem c12_11_s (hw : Cur w) : W3 Try.prog 135 V12 c12_11 Q e w = (opsW (nx Try.prog) mv gdP 135 V12 o12_5 (fun e w => Q .ret e w) o12_5.toList [] e e w) := by rw [(by kernel_rfl : c12_11 = .seq (.region 5 o12_5 false) Code.ret), W3_seq_reg]; simp only [W3_ret, W3_skip, W3_exit, W3_label]
theorem c12_10_s (hw : Cur w) : W3 Try.prog 135 V12 c12_10 Q e w = (opsW (nx Try.prog) mv gdP 135 V12 o12_4 (fun e w => W3 Try.prog 135 V12 c12_11 Q e w) o12_4.toList [] e e w) := by rw [(by kernel_rfl : c12_10 = .seq (.region 4 o12_4 false) c12_11), W3_seq_reg]
theorem c12_9_s (hw : Cur w) : W3 Try.prog 135 V12 c12_9 Q e w = (opsW (nx Try.prog) mv gdP 135 V12 o12_3 (fun e w => W3 Try.prog 135 V12 c12_10 Q e w) o12_3.toList [] e e w) := by rw [(by kernel_rfl : c12_9 = .seq (.region 3 o12_3 false) c12_10), W3_seq_reg]
theorem o12_6_eq : opsW N M G 135 V12 o12_6 k o12_6.toList [] e e w =
    (N (xv (xbin BinOp.eql 5 (Operand.tmp 20) (Operand.const (Value.int IntKind.u8 1)) (e 20) (Value.int IntKind.u8 1))) w fun t46 w =>
    M t46 fun t45 =>
    k (Env.p e 45 t45) w) := nr (by kernel_rfl)
theorem o12_7_eq : opsW N M G 135 V12 o12_7 k o12_7.toList [] e e w =
    (M (e 0) fun t48 =>
    N (xv (Instr.fieldAt 41 (e 5) 3)) w fun t49 w =>
    N (xv (Instr.loadAt 2 t49)) w fun t50 w =>
    N (xcall (Value.func (Fn.func 15) #[] #[]) [t48, t50]) w fun t51 w =>
    M t51 fun t47 =>
    N (xv (Instr.extract t47 0)) w fun t52 w =>
    N (xv (Instr.extract t47 1)) w fun t53 w =>
    N (xv (Instr.alloc 47 true (.tuple #[]))) w fun t11 w =>
    N (xu (Instr.storeAt 47 t11 t52)) w fun _ w =>
    M t53 fun t12 =>
    k (Env.p (Env.p e 11 t11) 12 t12) w) := nr (by kernel_rfl)
theorem o12_13_eq : opsW N M G 135 V12 o12_13 k o12_13.toList [] e e w =
    (M (e 12) fun t87 =>
    N (xv (xbin BinOp.eql 3 (Operand.tmp 87) (Operand.const (Value.int IntKind.i64 3)) t87 (Value.int IntKind.i64 3))) w fun t88 w =>
    M t88 fun t89 =>
    G (isB t89 true) (fun K => N (xv (Instr.loadAt 47 (e 11))) w K) (fun t90 w =>
    G (isB t89 true) (fun K => N (xv (Instr.build 47 ([]).toArray)) w K) (fun t91 w =>
    G (isB t89 true) (fun K => N (xcall (Value.func (Fn.func 24) #[] #[]) [t90, t91]) w K) (fun t92 w =>
    N (xpick t89 t92 (Value.bool false)) w fun t93 w =>
    M t93 fun t6 =>
    k (Env.p e 6 t6) w) w) w) w) := nr (by kernel_rfl)
theorem c12_16_s (hw : Cur w) : W3 Try.prog 135 V12 c12_16 Q e w = (opsW (nx Try.prog) mv gdP 135 V12 o12_13 (fun e w => Q .ret e w) o12_13.toList [] e e w) := by rw [(by kernel_rfl : c12_16 = .seq (.region 13 o12_13 false) Code.ret), W3_seq_reg]; simp only [W3_ret, W3_skip, W3_exit, W3_label]
theorem o12_8_eq : opsW N M G 135 V12 o12_8 k o12_8.toList [] e e w =
    (M (Value.int IntKind.i64 0) fun t13 =>
    k (Env.p e 13 t13) w) := nr (by kernel_rfl)
theorem o12_10_eq : opsW N M G 135 V12 o12_10 k o12_10.toList [] e e w =
    (M (e 13) fun t61 =>
    N (xv (xbin BinOp.add 3 (Operand.tmp 61) (Operand.const (Value.int IntKind.i64 1)) t61 (Value.int IntKind.i64 1))) w fun t62 w =>
    M t62 fun t13 =>
    k (Env.p e 13 t13) w) := nr (by kernel_rfl)
theorem c12_22_s (hw : Cur w) : W3 Try.prog 135 V12 c12_22 Q e w = (opsW (nx Try.prog) mv gdP 135 V12 o12_10 (fun e w => Q .normal e w) o12_10.toList [] e e w) := by rw [(by kernel_rfl : c12_22 = (.region 10 o12_10 false)), W3_reg]
theorem o12_11_eq : drawGo3 N T3 M G H 135 V12 o12_11 (puK o12_11) k o12_11.size [] (Array.replicate o12_11.size false) [] e e w =
    (M (e 1) fun t63 =>
    T3 (FrX none w) (xnil t63) fun t64 =>
    T3 (FrX none w) (xv (Instr.fieldAt 38 t64 0)) fun t65 =>
    T3 (FrX (some []) w) (xv (Instr.loadAt 36 t65)) fun t66 =>
    M (e 13) fun t67 =>
    T3 (FrX none w) (xv (Instr.indexAt 36 t66 t67)) fun t68 =>
    T3 (FrX none w) (xv (Instr.fieldAt 47 t68 0)) fun t69 =>
    T3 (FrX (some []) w) (xv (Instr.loadAt 2 t69)) fun t70 =>
    T3 (FrX none w) (xv (Instr.fieldAt 41 (e 5) 3)) fun t71 =>
    T3 (FrX (some []) w) (xv (Instr.loadAt 2 t71)) fun t72 =>
    T3 (FrX none w) (xv (xbin BinOp.eql 2 (Operand.tmp 70) (Operand.tmp 72) t70 t72)) fun t73 =>
    (k (Env.p e 73 t73)) w) := nr (by kernel_rfl)
theorem o12_12_eq : drawGo3 N T3 M G H 135 V12 o12_12 (puK o12_12) k o12_12.size [] (Array.replicate o12_12.size false) [] e e w =
    (M (e 12) fun t74 =>
    T3 (FrX none w) (xv (xbin BinOp.eql 27 (Operand.tmp 74) (Operand.const (Value.int IntKind.i64 0)) t74 (Value.int IntKind.i64 0))) fun t75 =>
    M t75 fun t76 =>
    H (isB t76 true) (fun K => T3 (FrX (some []) w) (xv (Instr.loadAt 47 (e 11))) K) (fun t77 =>
    H (isB t76 true) (fun K => M (e 1) K) (fun t78 =>
    H (isB t76 true) (fun K => T3 (FrX none w) (xnil t78) K) (fun t79 =>
    H (isB t76 true) (fun K => T3 (FrX none w) (xv (Instr.fieldAt 38 t79 0)) K) (fun t80 =>
    H (isB t76 true) (fun K => T3 (FrX (some []) w) (xv (Instr.loadAt 36 t80)) K) (fun t81 =>
    H (isB t76 true) (fun K => M (e 13) K) (fun t82 =>
    H (isB t76 true) (fun K => T3 (FrX none w) (xv (Instr.indexAt 36 t81 t82)) K) (fun t83 =>
    H (isB t76 true) (fun K => T3 (FrX (some []) w) (xv (Instr.loadAt 47 t83)) K) (fun t84 =>
    G (isB t76 true) (fun K => N (xcall (Value.func (Fn.func 24) #[] #[]) [t77, t84]) w K) (fun t85 w11 =>
    FrX (some []) w w11 ∧ (T3 (FrX none w11) (xpick t76 t85 (Value.bool false)) fun t86 =>
    M t86 fun t6 =>
    (k (Env.p e 6 t6)) w11)) w))))))))) := nr (by kernel_rfl)
theorem c12_26_s (hw : Cur w) : W3 Try.prog 135 V12 c12_26 Q e w = (drawGo3 (nx Try.prog) (takeP Try.prog) mv gdP gdT 135 V12 o12_12 (puK o12_12) (fun e w => Q .ret e w) o12_12.size [] (Array.replicate o12_12.size false) [] e e w.drew) := by rw [(by kernel_rfl : c12_26 = .seq (.region 12 o12_12 true) Code.ret), W3_seq_regD]; simp only [W3_ret, W3_skip, W3_exit, W3_label]
theorem c12_25_v : opV V12 (.tmp 73) = true := by kernel_rfl
theorem c12_25_s (hw : Cur w) : W3 Try.prog 135 V12 c12_25 Q e w = (condP (ev e (.tmp 73)) (W3 Try.prog 135 V12 c12_26 Q e w) (Q .normal e w)) := by rw [(by kernel_rfl : c12_25 = .cond (.tmp 73) c12_26 Code.skip), W3_cond, c12_25_v, cond_true]; simp only [W3_ret, W3_skip, W3_exit, W3_label]
theorem c12_24_s (hw : Cur w) : W3 Try.prog 135 V12 c12_24 Q e w = (drawGo3 (nx Try.prog) (takeP Try.prog) mv gdP gdT 135 V12 o12_11 (puK o12_11) (fun e w => W3 Try.prog 135 V12 c12_25 Q e w) o12_11.size [] (Array.replicate o12_11.size false) [] e e w.drew) := by rw [(by kernel_rfl : c12_24 = .seq (.region 11 o12_11 true) c12_25), W3_seq_regD]
theorem c12_23_s (hw : Cur w) : W3 Try.prog 135 V12 c12_23 Q e w = (W3 Try.prog 135 V12 c12_24 (blockQ 2 Q) e w) := by rw [(by kernel_rfl : c12_23 = .block 2 c12_24), W3_block]
theorem c12_21_s (hw : Cur w) : W3 Try.prog 135 V12 c12_21 Q e w = (W3 Try.prog 135 V12 c12_23 (seqQ (fun e w => W3 Try.prog 135 V12 c12_22 Q e w) Q) e w) := by rw [(by kernel_rfl : c12_21 = .seq c12_23 c12_22), W3_seq]
theorem o12_9_eq : opsW N M G 135 V12 o12_9 k o12_9.toList [] e e w =
    (M (e 13) fun t54 =>
    M (e 1) fun t55 =>
    N (xnil t55) w fun t56 w =>
    N (xv (Instr.fieldAt 38 t56 0)) w fun t57 w =>
    N (xv (Instr.loadAt 36 t57)) w fun t58 w =>
    N (builtin Builtin.len #[36] 3 ([false]).toArray ([t58]).toArray) w fun t59 w =>
    N (xv (xbin BinOp.lss 3 (Operand.tmp 54) (Operand.tmp 59) t54 t59)) w fun t60 w =>
    k (Env.p e 60 t60) w) := nr (by kernel_rfl)
theorem c12_28_v : opV V12 (.tmp 60) = true := by kernel_rfl
theorem c12_28_s (hw : Cur w) : W3 Try.prog 135 V12 c12_28 Q e w = (condP (ev e (.tmp 60)) (Q .normal e w) (Q (.exit 1) e w)) := by rw [(by kernel_rfl : c12_28 = .cond (.tmp 60) Code.skip (Code.exit 1)), W3_cond, c12_28_v, cond_true]; simp only [W3_ret, W3_skip, W3_exit, W3_label]
theorem c12_27_s (hw : Cur w) : W3 Try.prog 135 V12 c12_27 Q e w = (opsW (nx Try.prog) mv gdP 135 V12 o12_9 (fun e w => W3 Try.prog 135 V12 c12_28 Q e w) o12_9.toList [] e e w) := by rw [(by kernel_rfl : c12_27 = .seq (.region 9 o12_9 false) c12_28), W3_seq_reg]
theorem c12_20_s (hw : Cur w) : W3 Try.prog 135 V12 c12_20 Q e w = (W3 Try.prog 135 V12 c12_27 (seqQ (fun e w => W3 Try.prog 135 V12 c12_21 Q e w) Q) e w) := by rw [(by kernel_rfl : c12_20 = .seq c12_27 c12_21), W3_seq]
theorem c12_19_s (hw : Cur w) : W3 Try.prog 135 V12 c12_19 Q e w = (LoopP (fun e w k => W3 Try.prog 135 V12 c12_20 (seqQ k Q) e w) e w) := by rw [(by kernel_rfl : c12_19 = .loop c12_20), W3_loop]
theorem c12_18_s (hw : Cur w) : W3 Try.prog 135 V12 c12_18 Q e w = (W3 Try.prog 135 V12 c12_19 (blockQ 1 Q) e w) := by rw [(by kernel_rfl : c12_18 = .block 1 c12_19), W3_block]
theorem c12_17_s (hw : Cur w) : W3 Try.prog 135 V12 c12_17 Q e w = (opsW (nx Try.prog) mv gdP 135 V12 o12_8 (fun e w => W3 Try.prog 135 V12 c12_18 Q e w) o12_8.toList [] e e w) := by rw [(by kernel_rfl : c12_17 = .seq (.region 8 o12_8 false) c12_18), W3_seq_reg]
theorem c12_15_s (hw : Cur w) : W3 Try.prog 135 V12 c12_15 Q e w = (W3 Try.prog 135 V12 c12_17 (seqQ (fun e w => W3 Try.prog 135 V12 c12_16 Q e w) Q) e w) := by rw [(by kernel_rfl : c12_15 = .seq c12_17 c12_16), W3_seq]
theorem c12_14_s (hw : Cur w) : W3 Try.prog 135 V12 c12_14 Q e w = (opsW (nx Try.prog) mv gdP 135 V12 o12_7 (fun e w => W3 Try.prog 135 V12 c12_15 Q e w) o12_7.toList [] e e w) := by rw [(by kernel_rfl : c12_14 = .seq (.region 7 o12_7 false) c12_15), W3_seq_reg]
theorem o12_14_eq : opsW N M G 135 V12 o12_14 k o12_14.toList [] e e w =
    (N (xv (xbin BinOp.eql 5 (Operand.tmp 20) (Operand.const (Value.int IntKind.u8 2)) (e 20) (Value.int IntKind.u8 2))) w fun t95 w =>
    M t95 fun t94 =>
    k (Env.p e 94 t94) w) := nr (by kernel_rfl)
theorem o12_15_eq : drawGo3 N T3 M G H 135 V12 o12_15 (puK o12_15) k o12_15.size [] (Array.replicate o12_15.size false) [] e e w =
    (M (e 0) fun t96 =>
    T3 (FrX none w) (xv (Instr.fieldAt 41 (e 5) 3)) fun t97 =>
    T3 (FrX (some []) w) (xv (Instr.loadAt 2 t97)) fun t98 =>
    T3 (FrX none w) (xv (Instr.fieldAt 41 (e 5) 4)) fun t99 =>
    T3 (FrX (some []) w) (xv (Instr.loadAt 3 t99)) fun t100 =>
    M (e 1) fun t102 =>
    T3 (FrX none w) (xv (Instr.fieldAt 41 (e 5) 3)) fun t103 =>
    T3 (FrX (some []) w) (xv (Instr.loadAt 2 t103)) fun t104 =>
    T3 (FrX none w) (xv (Instr.fieldAt 41 (e 5) 4)) fun t105 =>
    T3 (FrX (some []) w) (xv (Instr.loadAt 3 t105)) fun t106 =>
    N (xcall (Value.func (Fn.func 14) #[] #[]) [t96, t98, t100]) w fun t101 w5 =>
    FrX (some []) w w5 ∧ (FrX (some []) w w5 ∧ (N (xcall (Value.func (Fn.func 25) #[] #[]) [t102, t104, t106]) w5 fun t107 w11 =>
    N (xcall (Value.func (Fn.func 18) #[] #[]) [t101, t107]) w11 fun t108 w12 =>
    M t108 fun t6 =>
    (k (Env.p e 6 t6)) w12))) := nr (by kernel_rfl)
theorem c12_31_s (hw : Cur w) : W3 Try.prog 135 V12 c12_31 Q e w = (drawGo3 (nx Try.prog) (takeP Try.prog) mv gdP gdT 135 V12 o12_15 (puK o12_15) (fun e w => Q .ret e w) o12_15.size [] (Array.replicate o12_15.size false) [] e e w.drew) := by rw [(by kernel_rfl : c12_31 = .seq (.region 15 o12_15 true) Code.ret), W3_seq_regD]; simp only [W3_ret, W3_skip, W3_exit, W3_label]
theorem c12_30_v : opV V12 (.tmp 94) = true := by kernel_rfl
theorem c12_30_s (hw : Cur w) : W3 Try.prog 135 V12 c12_30 Q e w = (condP (ev e (.tmp 94)) (W3 Try.prog 135 V12 c12_31 Q e w) (Q .normal e w)) := by rw [(by kernel_rfl : c12_30 = .cond (.tmp 94) c12_31 Code.skip), W3_cond, c12_30_v, cond_true]; simp only [W3_ret, W3_skip, W3_exit, W3_label]
theorem c12_29_s (hw : Cur w) : W3 Try.prog 135 V12 c12_29 Q e w = (opsW (nx Try.prog) mv gdP 135 V12 o12_14 (fun e w => W3 Try.prog 135 V12 c12_30 Q e w) o12_14.toList [] e e w) := by rw [(by kernel_rfl : c12_29 = .seq (.region 14 o12_14 false) c12_30), W3_seq_reg]
theorem c12_13_v : opV V12 (.tmp 45) = true := by kernel_rfl
theorem c12_13_s (hw : Cur w) : W3 Try.prog 135 V12 c12_13 Q e w = (condP (ev e (.tmp 45)) (W3 Try.prog 135 V12 c12_14 Q e w) (W3 Try.prog 135 V12 c12_29 Q e w)) := by rw [(by kernel_rfl : c12_13 = .cond (.tmp 45) c12_14 c12_29), W3_cond, c12_13_v, cond_true]
theorem c12_12_s (hw : Cur w) : W3 Try.prog 135 V12 c12_12 Q e w = (opsW (nx Try.prog) mv gdP 135 V12 o12_6 (fun e w => W3 Try.prog 135 V12 c12_13 Q e w) o12_6.toList [] e e w) := by rw [(by kernel_rfl : c12_12 = .seq (.region 6 o12_6 false) c12_13), W3_seq_reg]
theorem c12_8_v : opV V12 (.tmp 21) = true := by kernel_rfl
theorem c12_8_s (hw : Cur w) : W3 Try.prog 135 V12 c12_8 Q e w = (condP (ev e (.tmp 21)) (W3 Try.prog 135 V12 c12_9 Q e w) (W3 Try.prog 135 V12 c12_12 Q e w)) := by rw [(by kernel_rfl : c12_8 = .cond (.tmp 21) c12_9 c12_12), W3_cond, c12_8_v, cond_true]
theorem c12_7_s (hw : Cur w) : W3 Try.prog 135 V12 c12_7 Q e w = (opsW (nx Try.prog) mv gdP 135 V12 o12_2 (fun e w => W3 Try.prog 135 V12 c12_8 Q e w) o12_2.toList [] e e w) := by rw [(by kernel_rfl : c12_7 = .seq (.region 2 o12_2 false) c12_8), W3_seq_reg]
theorem c12_6_s (hw : Cur w) : W3 Try.prog 135 V12 c12_6 Q e w = (W3 Try.prog 135 V12 c12_7 (blockQ 0 Q) e w) := by rw [(by kernel_rfl : c12_6 = .block 0 c12_7), W3_block]
theorem c12_5_s (hw : Cur w) : W3 Try.prog 135 V12 c12_5 Q e w = (opsW (nx Try.prog) mv gdP 135 V12 o12_1 (fun e w => W3 Try.prog 135 V12 c12_6 Q e w) o12_1.toList [] e e w) := by rw [(by kernel_rfl : c12_5 = .seq (.region 1 o12_1 false) c12_6), W3_seq_reg]
theorem c12_1_s (hw : Cur w) : W3 Try.prog 135 V12 c12_1 Q e w = (W3 Try.prog 135 V12 c12_5 (seqQ (fun e w => W3 Try.prog 135 V12 c12_2 Q e w) Q) e w) := by rw [(by kernel_rfl : c12_1 = .seq c12_5 c12_2), W3_seq]
theorem c12_s (hw : Cur w) : W3 Try.prog 135 V12 c12 Q e w = (opsW (nx Try.prog) mv gdP 135 V12 o12_0 (fun e w => W3 Try.prog 135 V12 c12_1 Q e w) o12_0.toList [] e e w) := by rw [(by kernel_rfl : c12 = .seq (.region 0 o12_0 false) c12_1), W3_seq_reg]
theorem call12 {a0 a1 a2 : Value} {w : World} {R : Value → World → Prop} (h : W3 Try.prog 135 V12 c12 (retQ Try.prog [.tmp 6] R) (argE [a0, a1, a2]) w) : CallsN Try.prog 12 [a0, a1, a2] w R :=
  callsN_of_W3 (c := c12) (rs := [.tmp 6]) V12 Try.ntmps12 (by rw [Try.results12]) mixed Try.func12 (by kernel_rfl) (by kernel_rfl) (by kernel_rfl) (by kernel_rfl) (by simp) h
noncomputable def hk12 := And.intro (@o12_0_eq) <| And.intro (@o12_16_eq) <| And.intro (@o12_17_eq) <| And.intro (@o12_18_eq) <| And.intro (@c12_4_s) <| And.intro (@c12_3_s) <| And.intro (@c12_2_s) <| And.intro (@o12_1_eq) <| And.intro (@o12_2_eq) <| And.intro (@o12_3_eq) <| And.intro (@o12_4_eq) <| And.intro (@o12_5_eq) <| And.intro (@c12_11_s) <| And.intro (@c12_10_s) <| And.intro (@c12_9_s) <| And.intro (@o12_6_eq) <| And.intro (@o12_7_eq) <| And.intro (@o12_13_eq) <| And.intro (@c12_16_s) <| And.intro (@o12_8_eq) <| And.intro (@o12_10_eq) <| And.intro (@c12_22_s) <| And.intro (@o12_11_eq) <| And.intro (@o12_12_eq) <| And.intro (@c12_26_s) <| And.intro (@c12_25_s) <| And.intro (@c12_24_s) <| And.intro (@c12_23_s) <| And.intro (@c12_21_s) <| And.intro (@o12_9_eq) <| And.intro (@c12_28_s) <| And.intro (@c12_27_s) <| And.intro (@c12_20_s) <| And.intro (@c12_19_s) <| And.intro (@c12_18_s) <| And.intro (@c12_17_s) <| And.intro (@c12_15_s) <| And.intro (@c12_14_s) <| And.intro (@o12_14_eq) <| And.intro (@o12_15_eq) <| And.intro (@c12_31_s) <| And.intro (@c12_30_s) <| And.intro (@c12_29_s) <| And.intro (@c12_13_s) <| And.intro (@c12_12_s) <| And.intro (@c12_8_s) <| And.intro (@c12_7_s) <| And.intro (@c12_6_s) <| And.intro (@c12_5_s) <| And.intro (@c12_1_s) <| @c12_s
-- K12: ↓hk12
/-! ### vouch/vouchlaw06.StreamClones -/
def V6 : Nat → Bool := fun i => [0, 1, 4, 5, 6, 7, 8, 9, 10, 11, 12, 13, 14, 15, 16, 17, 18, 19, 21, 28, 82, 86, 97, 107, 139, 143, 153].elem i
noncomputable def c6 : Code := (Try.f6.body.getD .skip)
noncomputable def o6_0 : Array Oper := rO (cL c6)
noncomputable def c6_1 : Code := (cR c6)
noncomputable def c6_2 : Code := (cR c6_1)
noncomputable def o6_3 : Array Oper := rO (cL c6_2)
noncomputable def c6_3 : Code := (cR c6_2)
noncomputable def c6_4 : Code := (cR c6_3)
noncomputable def o6_16 : Array Oper := rO (cL c6_4)
noncomputable def c6_5 : Code := (cR c6_4)
noncomputable def c6_6 : Code := (cR c6_5)
noncomputable def o6_25 : Array Oper := rO (cL c6_6)
noncomputable def c6_7 : Code := (cR c6_6)
noncomputable def c6_8 : Code := (cR c6_7)
noncomputable def c6_9 : Code := (cR c6_8)
noncomputable def o6_33 : Array Oper := rO (cL c6_9)
noncomputable def c6_10 : Code := (cL c6_8)
noncomputable def o6_28 : Array Oper := rO (cL c6_10)
noncomputable def c6_11 : Code := (cR c6_10)
noncomputable def c6_12 : Code := (cL c6_11)
noncomputable def c6_13 : Code := (cL c6_12)
noncomputable def c6_14 : Code := (cR c6_13)
noncomputable def c6_15 : Code := (cR c6_14)
noncomputable def o6_30 : Array Oper := rO c6_15
noncomputable def c6_16 : Code := (cL c6_14)
noncomputable def c6_17 : Code := (cL c6_16)
noncomputable def o6_31 : Array Oper := rO (cL c6_17)
noncomputable def c6_18 : Code := (cR c6_17)
noncomputable def c6_19 : Code := (cL c6_18)
noncomputable def o6_32 : Array Oper := rO (cL c6_19)
noncomputable def c6_20 : Code := (cL c6_13)
noncomputable def o6_29 : Array Oper := rO (cL c6_20)
noncomputable def c6_21 : Code := (cR c6_20)
noncomputable def c6_22 : Code := (cL c6_7)
noncomputable def o6_26 : Array Oper := rO (cL c6_22)
noncomputable def c6_23 : Code := (cR c6_22)
noncomputable def c6_24 : Code := (cL c6_23)
noncomputable def o6_27 : Array Oper := rO (cL c6_24)
noncomputable def c6_25 : Code := (cL c6_5)
noncomputable def o6_17 : Array Oper := rO (cL c6_25)
noncomputable def c6_26 : Code := (cR c6_25)
noncomputable def c6_27 : Code := (cL c6_26)
noncomputable def c6_28 : Code := (cL c6_27)
noncomputable def c6_29 : Code := (cR c6_28)
noncomputable def c6_30 : Code := (cR c6_29)
noncomputable def o6_19 : Array Oper := rO c6_30
noncomputable def c6_31 : Code := (cL c6_29)
noncomputable def c6_32 : Code := (cL c6_31)
noncomputable def c6_33 : Code := (cR c6_32)
noncomputable def o6_24 : Array Oper := rO c6_33
noncomputable def c6_34 : Code := (cL c6_32)
noncomputable def o6_20 : Array Oper := rO (cL c6_34)
noncomputable def c6_35 : Code := (cR c6_34)
noncomputable def c6_36 : Code := (cL c6_35)
noncomputable def c6_37 : Code := (cL c6_36)
noncomputable def c6_38 : Code := (cR c6_37)
noncomputable def c6_39 : Code := (cR c6_38)
noncomputable def o6_22 : Array Oper := rO c6_39
noncomputable def c6_40 : Code := (cL c6_38)
noncomputable def c6_41 : Code := (cL c6_40)
noncomputable def o6_23 : Array Oper := rO c6_41
noncomputable def c6_42 : Code := (cL c6_37)
noncomputable def o6_21 : Array Oper := rO (cL c6_42)
noncomputable def c6_43 : Code := (cR c6_42)
noncomputable def c6_44 : Code := (cL c6_28)
noncomputable def o6_18 : Array Oper := rO (cL c6_44)
noncomputable def c6_45 : Code := (cR c6_44)
noncomputable def c6_46 : Code := (cL c6_3)
noncomputable def o6_4 : Array Oper := rO (cL c6_46)
noncomputable def c6_47 : Code := (cR c6_46)
noncomputable def c6_48 : Code := (cL c6_47)
noncomputable def c6_49 : Code := (cL c6_48)
noncomputable def c6_50 : Code := (cR c6_49)
noncomputable def c6_51 : Code := (cR c6_50)
noncomputable def o6_6 : Array Oper := rO c6_51
noncomputable def c6_52 : Code := (cL c6_50)
noncomputable def c6_53 : Code := (cL c6_52)
noncomputable def o6_7 : Array Oper := rO (cL c6_53)
noncomputable def c6_54 : Code := (cR c6_53)
noncomputable def o6_8 : Array Oper := rO (cL c6_54)
noncomputable def c6_55 : Code := (cR c6_54)
noncomputable def o6_9 : Array Oper := rO (cL c6_55)
noncomputable def c6_56 : Code := (cR c6_55)
noncomputable def c6_57 : Code := (cR c6_56)
noncomputable def o6_12 : Array Oper := rO (cL c6_57)
noncomputable def c6_58 : Code := (cR c6_57)
noncomputable def c6_59 : Code := (cL c6_58)
noncomputable def c6_60 : Code := (cL c6_59)
noncomputable def c6_61 : Code := (cR c6_60)
noncomputable def c6_62 : Code := (cR c6_61)
noncomputable def o6_14 : Array Oper := rO c6_62
noncomputable def c6_63 : Code := (cL c6_61)
noncomputable def c6_64 : Code := (cL c6_63)
noncomputable def o6_15 : Array Oper := rO c6_64
noncomputable def c6_65 : Code := (cL c6_60)
noncomputable def o6_13 : Array Oper := rO (cL c6_65)
noncomputable def c6_66 : Code := (cR c6_65)
noncomputable def c6_67 : Code := (cL c6_56)
noncomputable def o6_10 : Array Oper := rO (cL c6_67)
noncomputable def c6_68 : Code := (cR c6_67)
noncomputable def c6_69 : Code := (cL c6_68)
noncomputable def o6_11 : Array Oper := rO (cL c6_69)
noncomputable def c6_70 : Code := (cL c6_49)
noncomputable def o6_5 : Array Oper := rO (cL c6_70)
noncomputable def c6_71 : Code := (cR c6_70)
noncomputable def c6_72 : Code := (cL c6_1)
noncomputable def o6_1 : Array Oper := rO (cL c6_72)
noncomputable def c6_73 : Code := (cR c6_72)
noncomputable def c6_74 : Code := (cL c6_73)
noncomputable def o6_2 : Array Oper := rO (cL c6_74)
theorem o6_0_eq : opsW N M G 170 V6 o6_0 k o6_0.toList [] e e w =
    (M (Value.bool false) fun t4 =>
    k (Env.p e 4 t4) w) := nr (by kernel_rfl)
theorem o6_3_eq : opsW N M G 170 V6 o6_3 k o6_3.toList [] e e w =
    (N (xcall (Value.func (Fn.func 9) #[] #[]) []) w fun t22 w =>
    N (xv (Instr.build 38 ([]).toArray)) w fun t23 w =>
    N (xv (Instr.box 38 t23)) w fun t24 w =>
    M t22 fun t5 =>
    M t24 fun t6 =>
    k (Env.p (Env.p e 5 t5) 6 t6) w) := nr (by kernel_rfl)
theorem o6_16_eq : opsW N M G 170 V6 o6_16 k o6_16.toList [] e e w =
    (M (e 5) fun t92 =>
    N (xcall (Value.func (Fn.func 14) #[] #[]) [t92, (Value.int IntKind.i64 1), (Value.int IntKind.i64 1073741824)]) w fun t93 w =>
    M t93 fun t14 =>
    k (Env.p e 14 t14) w) := nr (by kernel_rfl)
theorem o6_25_eq : drawGo3 N T3 M G H 170 V6 o6_25 (puK o6_25) k o6_25.size [] (Array.replicate o6_25.size false) [] e e w =
    (M (e 5) fun t128 =>
    M (e 6) fun t131 =>
    T3 (FrX none w) (xnil t131) fun t132 =>
    T3 (FrX none w) (xv (Instr.fieldAt 38 t132 0)) fun t133 =>
    T3 (FrX (some []) w) (xv (Instr.loadAt 36 t133)) fun t134 =>
    (N (xcall (Value.func (Fn.func 17) #[] #[]) [t128]) w fun t129 w1 =>
    FrX (some []) w w1 ∧ (N (xv (Instr.buildSlice 36 0 ([]).toArray)) w1 fun t130 w2 =>
    FrX (some []) w w2 ∧ (N (builtin Builtin.append #[36, 36] 36 ([false, false]).toArray ([t130, t134]).toArray) w2 fun t135 w7 =>
    T3 (FrX none w7) (xv (Instr.build 38 ([(0, t135)]).toArray)) fun t136 =>
    M t129 fun t17 =>
    N (xv (Instr.box 38 t136)) w7 fun t137 w9 =>
    M t137 fun t18 =>
    (k (Env.p (Env.p e 17 t17) 18 t18)) w9))) ∧ (N (xv (Instr.buildSlice 36 0 ([]).toArray)) w fun t130 w2 =>
    FrX (some []) w w2 ∧ (N (xcall (Value.func (Fn.func 17) #[] #[]) [t128]) w2 fun t129 w1 =>
    FrX (some []) w w1 ∧ (N (builtin Builtin.append #[36, 36] 36 ([false, false]).toArray ([t130, t134]).toArray) w1 fun t135 w7 =>
    T3 (FrX none w7) (xv (Instr.build 38 ([(0, t135)]).toArray)) fun t136 =>
    M t129 fun t17 =>
    N (xv (Instr.box 38 t136)) w7 fun t137 w9 =>
    M t137 fun t18 =>
    (k (Env.p (Env.p e 17 t17) 18 t18)) w9)))) := nr (by kernel_rfl)
theorem o6_33_eq : drawGo3 N T3 M G H 170 V6 o6_33 (puK o6_33) k o6_33.size [] (Array.replicate o6_33.size false) [] e e w =
    (M (e 5) fun t154 =>
    M (e 6) fun t156 =>
    T3 (FrX none w) (xnil t156) fun t157 =>
    T3 (FrX none w) (xv (Instr.fieldAt 38 t157 0)) fun t158 =>
    T3 (FrX (some []) w) (xv (Instr.loadAt 36 t158)) fun t159 =>
    N (xcall (Value.func (Fn.func 14) #[] #[]) [t154, (Value.int IntKind.i64 1), (Value.int IntKind.i64 1073741824)]) w fun t155 w1 =>
    FrX (some []) w w1 ∧ (N (xcall (Value.func (Fn.func 18) #[] #[]) [t155, t159]) w1 fun t160 w6 =>
    M t160 fun t161 =>
    H (isB t161 true) (fun K => M (e 17) K) (fun t162 =>
    H (isB t161 true) (fun K => M (e 18) K) (fun t164 =>
    H (isB t161 true) (fun K => T3 (FrX none w6) (xnil t164) K) (fun t165 =>
    H (isB t161 true) (fun K => T3 (FrX none w6) (xv (Instr.fieldAt 38 t165 0)) K) (fun t166 =>
    H (isB t161 true) (fun K => T3 (FrX (some []) w6) (xv (Instr.loadAt 36 t166)) K) (fun t167 =>
    G (isB t161 true) (fun K => N (xcall (Value.func (Fn.func 14) #[] #[]) [t162, (Value.int IntKind.i64 0), (Value.int IntKind.i64 1073741824)]) w6 K) (fun t163 w9 =>
    FrX (some []) w6 w9 ∧ (G (isB t161 true) (fun K => N (xcall (Value.func (Fn.func 18) #[] #[]) [t163, t167]) w9 K) (fun t168 w14 =>
    T3 (FrX none w14) (xpick t161 t168 (Value.bool false)) fun t169 =>
    M t169 fun t4 =>
    (k (Env.p e 4 t4)) w14) w9)) w6))))))) := nr (by kernel_rfl)
theorem c6_9_s (hw : Cur w) : W3 Try.prog 170 V6 c6_9 Q e w = (drawGo3 (nx Try.prog) (takeP Try.prog) mv gdP gdT 170 V6 o6_33 (puK o6_33) (fun e w => Q .ret e w) o6_33.size [] (Array.replicate o6_33.size false) [] e e w.drew) := by rw [(by kernel_rfl : c6_9 = .seq (.region 33 o6_33 true) Code.ret), W3_seq_regD]; simp only [W3_ret, W3_skip, W3_exit, W3_label]
theorem o6_28_eq : opsW N M G 170 V6 o6_28 k o6_28.toList [] e e w =
    (M (Value.int IntKind.i64 0) fun t19 =>
    k (Env.p e 19 t19) w) := nr (by kernel_rfl)
theorem o6_30_eq : opsW N M G 170 V6 o6_30 k o6_30.toList [] e e w =
    (M (e 19) fun t144 =>
    N (xv (xbin BinOp.add 3 (Operand.tmp 144) (Operand.const (Value.int IntKind.i64 1)) t144 (Value.int IntKind.i64 1))) w fun t145 w =>
    M t145 fun t19 =>
    k (Env.p e 19 t19) w) := nr (by kernel_rfl)
theorem c6_15_s (hw : Cur w) : W3 Try.prog 170 V6 c6_15 Q e w = (opsW (nx Try.prog) mv gdP 170 V6 o6_30 (fun e w => Q .normal e w) o6_30.toList [] e e w) := by rw [(by kernel_rfl : c6_15 = (.region 30 o6_30 false)), W3_reg]
theorem o6_31_eq : opsW N M G 170 V6 o6_31 k o6_31.toList [] e e w =
    (M (e 17) fun t146 =>
    M (e 18) fun t147 =>
    M (e 1) fun t148 =>
    M (e 19) fun t149 =>
    N (xv (Instr.indexAt 34 t148 t149)) w fun t150 w =>
    N (xv (Instr.loadAt 41 t150)) w fun t151 w =>
    N (xcall (Value.func (Fn.func 12) #[] #[]) [t146, t147, t151]) w fun t152 w =>
    N (xv (Op.unary UnOp.not t152)) w fun t153 w =>
    k (Env.p e 153 t153) w) := nr (by kernel_rfl)
theorem o6_32_eq : opsW N M G 170 V6 o6_32 k o6_32.toList [] e e w =
    (M (Value.bool false) fun t4 =>
    k (Env.p e 4 t4) w) := nr (by kernel_rfl)
theorem c6_19_s (hw : Cur w) : W3 Try.prog 170 V6 c6_19 Q e w = (opsW (nx Try.prog) mv gdP 170 V6 o6_32 (fun e w => Q .ret e w) o6_32.toList [] e e w) := by rw [(by kernel_rfl : c6_19 = .seq (.region 32 o6_32 false) Code.ret), W3_seq_reg]; simp only [W3_ret, W3_skip, W3_exit, W3_label]
theorem c6_18_v : opV V6 (.tmp 153) = true := by kernel_rfl
theorem c6_18_s (hw : Cur w) : W3 Try.prog 170 V6 c6_18 Q e w = (condP (ev e (.tmp 153)) (W3 Try.prog 170 V6 c6_19 Q e w) (Q .normal e w)) := by rw [(by kernel_rfl : c6_18 = .cond (.tmp 153) c6_19 Code.skip), W3_cond, c6_18_v, cond_true]; simp only [W3_ret, W3_skip, W3_exit, W3_label]
theorem c6_17_s (hw : Cur w) : W3 Try.prog 170 V6 c6_17 Q e w = (opsW (nx Try.prog) mv gdP 170 V6 o6_31 (fun e w => W3 Try.prog 170 V6 c6_18 Q e w) o6_31.toList [] e e w) := by rw [(by kernel_rfl : c6_17 = .seq (.region 31 o6_31 false) c6_18), W3_seq_reg]
theorem c6_16_s (hw : Cur w) : W3 Try.prog 170 V6 c6_16 Q e w = (W3 Try.prog 170 V6 c6_17 (blockQ 9 Q) e w) := by rw [(by kernel_rfl : c6_16 = .block 9 c6_17), W3_block]
theorem c6_14_s (hw : Cur w) : W3 Try.prog 170 V6 c6_14 Q e w = (W3 Try.prog 170 V6 c6_16 (seqQ (fun e w => W3 Try.prog 170 V6 c6_15 Q e w) Q) e w) := by rw [(by kernel_rfl : c6_14 = .seq c6_16 c6_15), W3_seq]
theorem o6_29_eq : opsW N M G 170 V6 o6_29 k o6_29.toList [] e e w =
    (M (e 19) fun t140 =>
    M (e 1) fun t141 =>
    N (builtin Builtin.len #[34] 3 ([false]).toArray ([t141]).toArray) w fun t142 w =>
    N (xv (xbin BinOp.lss 3 (Operand.tmp 140) (Operand.tmp 142) t140 t142)) w fun t143 w =>
    k (Env.p e 143 t143) w) := nr (by kernel_rfl)
theorem c6_21_v : opV V6 (.tmp 143) = true := by kernel_rfl
theorem c6_21_s (hw : Cur w) : W3 Try.prog 170 V6 c6_21 Q e w = (condP (ev e (.tmp 143)) (Q .normal e w) (Q (.exit 8) e w)) := by rw [(by kernel_rfl : c6_21 = .cond (.tmp 143) Code.skip (Code.exit 8)), W3_cond, c6_21_v, cond_true]; simp only [W3_ret, W3_skip, W3_exit, W3_label]
theorem c6_20_s (hw : Cur w) : W3 Try.prog 170 V6 c6_20 Q e w = (opsW (nx Try.prog) mv gdP 170 V6 o6_29 (fun e w => W3 Try.prog 170 V6 c6_21 Q e w) o6_29.toList [] e e w) := by rw [(by kernel_rfl : c6_20 = .seq (.region 29 o6_29 false) c6_21), W3_seq_reg]
theorem c6_13_s (hw : Cur w) : W3 Try.prog 170 V6 c6_13 Q e w = (W3 Try.prog 170 V6 c6_20 (seqQ (fun e w => W3 Try.prog 170 V6 c6_14 Q e w) Q) e w) := by rw [(by kernel_rfl : c6_13 = .seq c6_20 c6_14), W3_seq]
theorem c6_12_s (hw : Cur w) : W3 Try.prog 170 V6 c6_12 Q e w = (LoopP (fun e w k => W3 Try.prog 170 V6 c6_13 (seqQ k Q) e w) e w) := by rw [(by kernel_rfl : c6_12 = .loop c6_13), W3_loop]
theorem c6_11_s (hw : Cur w) : W3 Try.prog 170 V6 c6_11 Q e w = (W3 Try.prog 170 V6 c6_12 (blockQ 8 Q) e w) := by rw [(by kernel_rfl : c6_11 = .block 8 c6_12), W3_block]
theorem c6_10_s (hw : Cur w) : W3 Try.prog 170 V6 c6_10 Q e w = (opsW (nx Try.prog) mv gdP 170 V6 o6_28 (fun e w => W3 Try.prog 170 V6 c6_11 Q e w) o6_28.toList [] e e w) := by rw [(by kernel_rfl : c6_10 = .seq (.region 28 o6_28 false) c6_11), W3_seq_reg]
theorem c6_8_s (hw : Cur w) : W3 Try.prog 170 V6 c6_8 Q e w = (W3 Try.prog 170 V6 c6_10 (seqQ (fun e w => W3 Try.prog 170 V6 c6_9 Q e w) Q) e w) := by rw [(by kernel_rfl : c6_8 = .seq c6_10 c6_9), W3_seq]
theorem o6_26_eq : opsW N M G 170 V6 o6_26 k o6_26.toList [] e e w =
    (M (e 17) fun t138 =>
    N (xv (xbin BinOp.eql 24 (Operand.tmp 138) (Operand.const (Value.pointer none)) t138 (Value.pointer none))) w fun t139 w =>
    k (Env.p e 139 t139) w) := nr (by kernel_rfl)
theorem o6_27_eq : opsW N M G 170 V6 o6_27 k o6_27.toList [] e e w =
    (M (Value.bool false) fun t4 =>
    k (Env.p e 4 t4) w) := nr (by kernel_rfl)
theorem c6_24_s (hw : Cur w) : W3 Try.prog 170 V6 c6_24 Q e w = (opsW (nx Try.prog) mv gdP 170 V6 o6_27 (fun e w => Q .ret e w) o6_27.toList [] e e w) := by rw [(by kernel_rfl : c6_24 = .seq (.region 27 o6_27 false) Code.ret), W3_seq_reg]; simp only [W3_ret, W3_skip, W3_exit, W3_label]
theorem c6_23_v : opV V6 (.tmp 139) = true := by kernel_rfl
theorem c6_23_s (hw : Cur w) : W3 Try.prog 170 V6 c6_23 Q e w = (condP (ev e (.tmp 139)) (W3 Try.prog 170 V6 c6_24 Q e w) (Q .normal e w)) := by rw [(by kernel_rfl : c6_23 = .cond (.tmp 139) c6_24 Code.skip), W3_cond, c6_23_v, cond_true]; simp only [W3_ret, W3_skip, W3_exit, W3_label]
theorem c6_22_s (hw : Cur w) : W3 Try.prog 170 V6 c6_22 Q e w = (opsW (nx Try.prog) mv gdP 170 V6 o6_26 (fun e w => W3 Try.prog 170 V6 c6_23 Q e w) o6_26.toList [] e e w) := by rw [(by kernel_rfl : c6_22 = .seq (.region 26 o6_26 false) c6_23), W3_seq_reg]
theorem c6_7_s (hw : Cur w) : W3 Try.prog 170 V6 c6_7 Q e w = (W3 Try.prog 170 V6 c6_22 (seqQ (fun e w => W3 Try.prog 170 V6 c6_8 Q e w) Q) e w) := by rw [(by kernel_rfl : c6_7 = .seq c6_22 c6_8), W3_seq]
theorem c6_6_s (hw : Cur w) : W3 Try.prog 170 V6 c6_6 Q e w = (drawGo3 (nx Try.prog) (takeP Try.prog) mv gdP gdT 170 V6 o6_25 (puK o6_25) (fun e w => W3 Try.prog 170 V6 c6_7 Q e w) o6_25.size [] (Array.replicate o6_25.size false) [] e e w.drew) := by rw [(by kernel_rfl : c6_6 = .seq (.region 25 o6_25 true) c6_7), W3_seq_regD]
theorem o6_17_eq : opsW N M G 170 V6 o6_17 k o6_17.toList [] e e w =
    (M (Value.int IntKind.i64 0) fun t15 =>
    k (Env.p e 15 t15) w) := nr (by kernel_rfl)
theorem o6_19_eq : opsW N M G 170 V6 o6_19 k o6_19.toList [] e e w =
    (M (e 15) fun t98 =>
    N (xv (xbin BinOp.add 3 (Operand.tmp 98) (Operand.const (Value.int IntKind.i64 1)) t98 (Value.int IntKind.i64 1))) w fun t99 w =>
    M t99 fun t15 =>
    k (Env.p e 15 t15) w) := nr (by kernel_rfl)
theorem c6_30_s (hw : Cur w) : W3 Try.prog 170 V6 c6_30 Q e w = (opsW (nx Try.prog) mv gdP 170 V6 o6_19 (fun e w => Q .normal e w) o6_19.toList [] e e w) := by rw [(by kernel_rfl : c6_30 = (.region 19 o6_19 false)), W3_reg]
theorem o6_24_eq : opsW N M G 170 V6 o6_24 k o6_24.toList [] e e w =
    (M (e 14) fun t117 =>
    M (e 15) fun t118 =>
    M (e 14) fun t119 =>
    M (e 15) fun t120 =>
    N (xv (Instr.indexAt 36 t119 t120)) w fun t121 w =>
    N (xv (Instr.fieldAt 47 t121 1)) w fun t122 w =>
    N (xv (Instr.loadAt 30 t122)) w fun t123 w =>
    N (xv (Instr.buildSlice 30 1 ([(0, (Value.string ⟨#[109, 111, 114, 101]⟩))]).toArray)) w fun t124 w =>
    N (builtin Builtin.append #[30, 30] 30 ([false, false]).toArray ([t123, t124]).toArray) w fun t125 w =>
    N (xv (Instr.indexAt 36 t117 t118)) w fun t126 w =>
    N (xv (Instr.fieldAt 47 t126 1)) w fun t127 w =>
    N (xu (Instr.storeAt 30 t127 t125)) w fun _ w =>
    k e w) := nr (by kernel_rfl)
theorem c6_33_s (hw : Cur w) : W3 Try.prog 170 V6 c6_33 Q e w = (opsW (nx Try.prog) mv gdP 170 V6 o6_24 (fun e w => Q .normal e w) o6_24.toList [] e e w) := by rw [(by kernel_rfl : c6_33 = (.region 24 o6_24 false)), W3_reg]
theorem o6_20_eq : opsW N M G 170 V6 o6_20 k o6_20.toList [] e e w =
    (M (Value.int IntKind.i64 0) fun t16 =>
    k (Env.p e 16 t16) w) := nr (by kernel_rfl)
theorem o6_22_eq : opsW N M G 170 V6 o6_22 k o6_22.toList [] e e w =
    (M (e 16) fun t108 =>
    N (xv (xbin BinOp.add 3 (Operand.tmp 108) (Operand.const (Value.int IntKind.i64 1)) t108 (Value.int IntKind.i64 1))) w fun t109 w =>
    M t109 fun t16 =>
    k (Env.p e 16 t16) w) := nr (by kernel_rfl)
theorem c6_39_s (hw : Cur w) : W3 Try.prog 170 V6 c6_39 Q e w = (opsW (nx Try.prog) mv gdP 170 V6 o6_22 (fun e w => Q .normal e w) o6_22.toList [] e e w) := by rw [(by kernel_rfl : c6_39 = (.region 22 o6_22 false)), W3_reg]
theorem o6_23_eq : opsW N M G 170 V6 o6_23 k o6_23.toList [] e e w =
    (M (e 14) fun t110 =>
    M (e 15) fun t111 =>
    N (xv (Instr.indexAt 36 t110 t111)) w fun t112 w =>
    N (xv (Instr.fieldAt 47 t112 1)) w fun t113 w =>
    N (xv (Instr.loadAt 30 t113)) w fun t114 w =>
    M (e 16) fun t115 =>
    N (xv (Instr.indexAt 30 t114 t115)) w fun t116 w =>
    N (xu (Instr.storeAt 9 t116 (Value.string ⟨#[109, 97, 114, 107]⟩))) w fun _ w =>
    k e w) := nr (by kernel_rfl)
theorem c6_41_s (hw : Cur w) : W3 Try.prog 170 V6 c6_41 Q e w = (opsW (nx Try.prog) mv gdP 170 V6 o6_23 (fun e w => Q .normal e w) o6_23.toList [] e e w) := by rw [(by kernel_rfl : c6_41 = (.region 23 o6_23 false)), W3_reg]
theorem c6_40_s (hw : Cur w) : W3 Try.prog 170 V6 c6_40 Q e w = (W3 Try.prog 170 V6 c6_41 (blockQ 7 Q) e w) := by rw [(by kernel_rfl : c6_40 = .block 7 c6_41), W3_block]
theorem c6_38_s (hw : Cur w) : W3 Try.prog 170 V6 c6_38 Q e w = (W3 Try.prog 170 V6 c6_40 (seqQ (fun e w => W3 Try.prog 170 V6 c6_39 Q e w) Q) e w) := by rw [(by kernel_rfl : c6_38 = .seq c6_40 c6_39), W3_seq]
theorem o6_21_eq : opsW N M G 170 V6 o6_21 k o6_21.toList [] e e w =
    (M (e 16) fun t100 =>
    M (e 14) fun t101 =>
    M (e 15) fun t102 =>
    N (xv (Instr.indexAt 36 t101 t102)) w fun t103 w =>
    N (xv (Instr.fieldAt 47 t103 1)) w fun t104 w =>
    N (xv (Instr.loadAt 30 t104)) w fun t105 w =>
    N (builtin Builtin.len #[30] 3 ([false]).toArray ([t105]).toArray) w fun t106 w =>
    N (xv (xbin BinOp.lss 3 (Operand.tmp 100) (Operand.tmp 106) t100 t106)) w fun t107 w =>
    k (Env.p e 107 t107) w) := nr (by kernel_rfl)
theorem c6_43_v : opV V6 (.tmp 107) = true := by kernel_rfl
theorem c6_43_s (hw : Cur w) : W3 Try.prog 170 V6 c6_43 Q e w = (condP (ev e (.tmp 107)) (Q .normal e w) (Q (.exit 6) e w)) := by rw [(by kernel_rfl : c6_43 = .cond (.tmp 107) Code.skip (Code.exit 6)), W3_cond, c6_43_v, cond_true]; simp only [W3_ret, W3_skip, W3_exit, W3_label]
theorem c6_42_s (hw : Cur w) : W3 Try.prog 170 V6 c6_42 Q e w = (opsW (nx Try.prog) mv gdP 170 V6 o6_21 (fun e w => W3 Try.prog 170 V6 c6_43 Q e w) o6_21.toList [] e e w) := by rw [(by kernel_rfl : c6_42 = .seq (.region 21 o6_21 false) c6_43), W3_seq_reg]
theorem c6_37_s (hw : Cur w) : W3 Try.prog 170 V6 c6_37 Q e w = (W3 Try.prog 170 V6 c6_42 (seqQ (fun e w => W3 Try.prog 170 V6 c6_38 Q e w) Q) e w) := by rw [(by kernel_rfl : c6_37 = .seq c6_42 c6_38), W3_seq]
theorem c6_36_s (hw : Cur w) : W3 Try.prog 170 V6 c6_36 Q e w = (LoopP (fun e w k => W3 Try.prog 170 V6 c6_37 (seqQ k Q) e w) e w) := by rw [(by kernel_rfl : c6_36 = .loop c6_37), W3_loop]
theorem c6_35_s (hw : Cur w) : W3 Try.prog 170 V6 c6_35 Q e w = (W3 Try.prog 170 V6 c6_36 (blockQ 6 Q) e w) := by rw [(by kernel_rfl : c6_35 = .block 6 c6_36), W3_block]
theorem c6_34_s (hw : Cur w) : W3 Try.prog 170 V6 c6_34 Q e w = (opsW (nx Try.prog) mv gdP 170 V6 o6_20 (fun e w => W3 Try.prog 170 V6 c6_35 Q e w) o6_20.toList [] e e w) := by rw [(by kernel_rfl : c6_34 = .seq (.region 20 o6_20 false) c6_35), W3_seq_reg]
theorem c6_32_s (hw : Cur w) : W3 Try.prog 170 V6 c6_32 Q e w = (W3 Try.prog 170 V6 c6_34 (seqQ (fun e w => W3 Try.prog 170 V6 c6_33 Q e w) Q) e w) := by rw [(by kernel_rfl : c6_32 = .seq c6_34 c6_33), W3_seq]
theorem c6_31_s (hw : Cur w) : W3 Try.prog 170 V6 c6_31 Q e w = (W3 Try.prog 170 V6 c6_32 (blockQ 5 Q) e w) := by rw [(by kernel_rfl : c6_31 = .block 5 c6_32), W3_block]
theorem c6_29_s (hw : Cur w) : W3 Try.prog 170 V6 c6_29 Q e w = (W3 Try.prog 170 V6 c6_31 (seqQ (fun e w => W3 Try.prog 170 V6 c6_30 Q e w) Q) e w) := by rw [(by kernel_rfl : c6_29 = .seq c6_31 c6_30), W3_seq]
theorem o6_18_eq : opsW N M G 170 V6 o6_18 k o6_18.toList [] e e w =
    (M (e 15) fun t94 =>
    M (e 14) fun t95 =>
    N (builtin Builtin.len #[36] 3 ([false]).toArray ([t95]).toArray) w fun t96 w =>
    N (xv (xbin BinOp.lss 3 (Operand.tmp 94) (Operand.tmp 96) t94 t96)) w fun t97 w =>
    k (Env.p e 97 t97) w) := nr (by kernel_rfl)
theorem c6_45_v : opV V6 (.tmp 97) = true := by kernel_rfl
theorem c6_45_s (hw : Cur w) : W3 Try.prog 170 V6 c6_45 Q e w = (condP (ev e (.tmp 97)) (Q .normal e w) (Q (.exit 4) e w)) := by rw [(by kernel_rfl : c6_45 = .cond (.tmp 97) Code.skip (Code.exit 4)), W3_cond, c6_45_v, cond_true]; simp only [W3_ret, W3_skip, W3_exit, W3_label]
theorem c6_44_s (hw : Cur w) : W3 Try.prog 170 V6 c6_44 Q e w = (opsW (nx Try.prog) mv gdP 170 V6 o6_18 (fun e w => W3 Try.prog 170 V6 c6_45 Q e w) o6_18.toList [] e e w) := by rw [(by kernel_rfl : c6_44 = .seq (.region 18 o6_18 false) c6_45), W3_seq_reg]
theorem c6_28_s (hw : Cur w) : W3 Try.prog 170 V6 c6_28 Q e w = (W3 Try.prog 170 V6 c6_44 (seqQ (fun e w => W3 Try.prog 170 V6 c6_29 Q e w) Q) e w) := by rw [(by kernel_rfl : c6_28 = .seq c6_44 c6_29), W3_seq]
theorem c6_27_s (hw : Cur w) : W3 Try.prog 170 V6 c6_27 Q e w = (LoopP (fun e w k => W3 Try.prog 170 V6 c6_28 (seqQ k Q) e w) e w) := by rw [(by kernel_rfl : c6_27 = .loop c6_28), W3_loop]
theorem c6_26_s (hw : Cur w) : W3 Try.prog 170 V6 c6_26 Q e w = (W3 Try.prog 170 V6 c6_27 (blockQ 4 Q) e w) := by rw [(by kernel_rfl : c6_26 = .block 4 c6_27), W3_block]
theorem c6_25_s (hw : Cur w) : W3 Try.prog 170 V6 c6_25 Q e w = (opsW (nx Try.prog) mv gdP 170 V6 o6_17 (fun e w => W3 Try.prog 170 V6 c6_26 Q e w) o6_17.toList [] e e w) := by rw [(by kernel_rfl : c6_25 = .seq (.region 17 o6_17 false) c6_26), W3_seq_reg]
theorem c6_5_s (hw : Cur w) : W3 Try.prog 170 V6 c6_5 Q e w = (W3 Try.prog 170 V6 c6_25 (seqQ (fun e w => W3 Try.prog 170 V6 c6_6 Q e w) Q) e w) := by rw [(by kernel_rfl : c6_5 = .seq c6_25 c6_6), W3_seq]
theorem c6_4_s (hw : Cur w) : W3 Try.prog 170 V6 c6_4 Q e w = (opsW (nx Try.prog) mv gdP 170 V6 o6_16 (fun e w => W3 Try.prog 170 V6 c6_5 Q e w) o6_16.toList [] e e w) := by rw [(by kernel_rfl : c6_4 = .seq (.region 16 o6_16 false) c6_5), W3_seq_reg]
theorem o6_4_eq : opsW N M G 170 V6 o6_4 k o6_4.toList [] e e w =
    (M (Value.int IntKind.i64 0) fun t7 =>
    k (Env.p e 7 t7) w) := nr (by kernel_rfl)
theorem o6_6_eq : opsW N M G 170 V6 o6_6 k o6_6.toList [] e e w =
    (M (e 7) fun t29 =>
    N (xv (xbin BinOp.add 3 (Operand.tmp 29) (Operand.const (Value.int IntKind.i64 1)) t29 (Value.int IntKind.i64 1))) w fun t30 w =>
    M t30 fun t7 =>
    k (Env.p e 7 t7) w) := nr (by kernel_rfl)
theorem c6_51_s (hw : Cur w) : W3 Try.prog 170 V6 c6_51 Q e w = (opsW (nx Try.prog) mv gdP 170 V6 o6_6 (fun e w => Q .normal e w) o6_6.toList [] e e w) := by rw [(by kernel_rfl : c6_51 = (.region 6 o6_6 false)), W3_reg]
theorem o6_7_eq : opsW N M G 170 V6 o6_7 k o6_7.toList [] e e w =
    (N (xv (Instr.buildSlice 30 0 ([]).toArray)) w fun t31 w =>
    M (e 0) fun t32 =>
    M (e 7) fun t33 =>
    N (xv (Instr.indexAt 34 t32 t33)) w fun t34 w =>
    N (xv (Instr.fieldAt 41 t34 1)) w fun t35 w =>
    N (xv (Instr.loadAt 30 t35)) w fun t36 w =>
    N (builtin Builtin.append #[30, 30] 30 ([false, false]).toArray ([t31, t36]).toArray) w fun t37 w =>
    N (xv (Instr.buildSlice 30 1 ([(0, (Value.string ⟨#[115, 112, 97, 114, 101]⟩))]).toArray)) w fun t38 w =>
    N (builtin Builtin.append #[30, 30] 30 ([false, false]).toArray ([t37, t38]).toArray) w fun t39 w =>
    M t39 fun t8 =>
    k (Env.p e 8 t8) w) := nr (by kernel_rfl)
theorem o6_8_eq : opsW N M G 170 V6 o6_8 k o6_8.toList [] e e w =
    (M (e 5) fun t41 =>
    M (e 8) fun t42 =>
    M (e 0) fun t43 =>
    M (e 7) fun t44 =>
    N (xv (Instr.indexAt 34 t43 t44)) w fun t45 w =>
    N (xv (Instr.fieldAt 41 t45 1)) w fun t46 w =>
    N (xv (Instr.loadAt 30 t46)) w fun t47 w =>
    N (builtin Builtin.len #[30] 3 ([false]).toArray ([t47]).toArray) w fun t48 w =>
    N (xv (Instr.sliceAt 30 t42 none (some t48) none)) w fun t49 w =>
    N (xcall (Value.func (Fn.func 10) #[] #[]) [t41, t49]) w fun t50 w =>
    M t50 fun t40 =>
    N (xv (Instr.extract t40 0)) w fun t51 w =>
    N (xv (Instr.extract t40 1)) w fun t52 w =>
    M t51 fun t9 =>
    M t52 fun t10 =>
    k (Env.p (Env.p e 9 t9) 10 t10) w) := nr (by kernel_rfl)
theorem o6_9_eq : opsW N M G 170 V6 o6_9 k o6_9.toList [] e e w =
    (M (e 6) fun t54 =>
    M (e 0) fun t55 =>
    M (e 7) fun t56 =>
    N (xv (Instr.indexAt 34 t55 t56)) w fun t57 w =>
    N (xv (Instr.fieldAt 41 t57 1)) w fun t58 w =>
    N (xv (Instr.loadAt 30 t58)) w fun t59 w =>
    N (xcall (Value.func (Fn.func 16) #[] #[]) [t54, t59]) w fun t60 w =>
    M t60 fun t53 =>
    N (xv (Instr.extract t53 0)) w fun t61 w =>
    N (xv (Instr.extract t53 1)) w fun t62 w =>
    M t61 fun t11 =>
    M t62 fun t12 =>
    k (Env.p (Env.p e 11 t11) 12 t12) w) := nr (by kernel_rfl)
theorem o6_12_eq : opsW N M G 170 V6 o6_12 k o6_12.toList [] e e w =
    (M (Value.int IntKind.i64 0) fun t13 =>
    k (Env.p e 13 t13) w) := nr (by kernel_rfl)
theorem o6_14_eq : opsW N M G 170 V6 o6_14 k o6_14.toList [] e e w =
    (M (e 13) fun t87 =>
    N (xv (xbin BinOp.add 3 (Operand.tmp 87) (Operand.const (Value.int IntKind.i64 1)) t87 (Value.int IntKind.i64 1))) w fun t88 w =>
    M t88 fun t13 =>
    k (Env.p e 13 t13) w) := nr (by kernel_rfl)
theorem c6_62_s (hw : Cur w) : W3 Try.prog 170 V6 c6_62 Q e w = (opsW (nx Try.prog) mv gdP 170 V6 o6_14 (fun e w => Q .normal e w) o6_14.toList [] e e w) := by rw [(by kernel_rfl : c6_62 = (.region 14 o6_14 false)), W3_reg]
theorem o6_15_eq : opsW N M G 170 V6 o6_15 k o6_15.toList [] e e w =
    (M (e 8) fun t89 =>
    M (e 13) fun t90 =>
    N (xv (Instr.indexAt 30 t89 t90)) w fun t91 w =>
    N (xu (Instr.storeAt 9 t91 (Value.string ⟨#[111, 118, 101, 114]⟩))) w fun _ w =>
    k e w) := nr (by kernel_rfl)
theorem c6_64_s (hw : Cur w) : W3 Try.prog 170 V6 c6_64 Q e w = (opsW (nx Try.prog) mv gdP 170 V6 o6_15 (fun e w => Q .normal e w) o6_15.toList [] e e w) := by rw [(by kernel_rfl : c6_64 = (.region 15 o6_15 false)), W3_reg]
theorem c6_63_s (hw : Cur w) : W3 Try.prog 170 V6 c6_63 Q e w = (W3 Try.prog 170 V6 c6_64 (blockQ 3 Q) e w) := by rw [(by kernel_rfl : c6_63 = .block 3 c6_64), W3_block]
theorem c6_61_s (hw : Cur w) : W3 Try.prog 170 V6 c6_61 Q e w = (W3 Try.prog 170 V6 c6_63 (seqQ (fun e w => W3 Try.prog 170 V6 c6_62 Q e w) Q) e w) := by rw [(by kernel_rfl : c6_61 = .seq c6_63 c6_62), W3_seq]
theorem o6_13_eq : opsW N M G 170 V6 o6_13 k o6_13.toList [] e e w =
    (M (e 13) fun t83 =>
    M (e 8) fun t84 =>
    N (builtin Builtin.len #[30] 3 ([false]).toArray ([t84]).toArray) w fun t85 w =>
    N (xv (xbin BinOp.lss 3 (Operand.tmp 83) (Operand.tmp 85) t83 t85)) w fun t86 w =>
    k (Env.p e 86 t86) w) := nr (by kernel_rfl)
theorem c6_66_v : opV V6 (.tmp 86) = true := by kernel_rfl
theorem c6_66_s (hw : Cur w) : W3 Try.prog 170 V6 c6_66 Q e w = (condP (ev e (.tmp 86)) (Q .normal e w) (Q (.exit 2) e w)) := by rw [(by kernel_rfl : c6_66 = .cond (.tmp 86) Code.skip (Code.exit 2)), W3_cond, c6_66_v, cond_true]; simp only [W3_ret, W3_skip, W3_exit, W3_label]
theorem c6_65_s (hw : Cur w) : W3 Try.prog 170 V6 c6_65 Q e w = (opsW (nx Try.prog) mv gdP 170 V6 o6_13 (fun e w => W3 Try.prog 170 V6 c6_66 Q e w) o6_13.toList [] e e w) := by rw [(by kernel_rfl : c6_65 = .seq (.region 13 o6_13 false) c6_66), W3_seq_reg]
theorem c6_60_s (hw : Cur w) : W3 Try.prog 170 V6 c6_60 Q e w = (W3 Try.prog 170 V6 c6_65 (seqQ (fun e w => W3 Try.prog 170 V6 c6_61 Q e w) Q) e w) := by rw [(by kernel_rfl : c6_60 = .seq c6_65 c6_61), W3_seq]
theorem c6_59_s (hw : Cur w) : W3 Try.prog 170 V6 c6_59 Q e w = (LoopP (fun e w k => W3 Try.prog 170 V6 c6_60 (seqQ k Q) e w) e w) := by rw [(by kernel_rfl : c6_59 = .loop c6_60), W3_loop]
theorem c6_58_s (hw : Cur w) : W3 Try.prog 170 V6 c6_58 Q e w = (W3 Try.prog 170 V6 c6_59 (blockQ 2 Q) e w) := by rw [(by kernel_rfl : c6_58 = .block 2 c6_59), W3_block]
theorem c6_57_s (hw : Cur w) : W3 Try.prog 170 V6 c6_57 Q e w = (opsW (nx Try.prog) mv gdP 170 V6 o6_12 (fun e w => W3 Try.prog 170 V6 c6_58 Q e w) o6_12.toList [] e e w) := by rw [(by kernel_rfl : c6_57 = .seq (.region 12 o6_12 false) c6_58), W3_seq_reg]
theorem o6_10_eq : opsW N M G 170 V6 o6_10 k o6_10.toList [] e e w =
    (M (e 9) fun t63 =>
    M (e 11) fun t64 =>
    N (xv (xbin BinOp.neq 2 (Operand.tmp 63) (Operand.tmp 64) t63 t64)) w fun t65 w =>
    M t65 fun t66 =>
    G (isB t66 false) (fun K => M (e 10) fun v => K v w) (fun t67 w =>
    G (isB t66 false) (fun K => M (e 12) fun v => K v w) (fun t68 w =>
    G (isB t66 false) (fun K => N (xv (xbin BinOp.neq 3 (Operand.tmp 67) (Operand.tmp 68) t67 t68)) w K) (fun t69 w =>
    N (xpick t66 (Value.bool true) t69) w fun t70 w =>
    M t70 fun t71 =>
    G (isB t71 false) (fun K => M (e 8) fun v => K v w) (fun t72 w =>
    G (isB t71 false) (fun K => M (e 0) fun v => K v w) (fun t73 w =>
    G (isB t71 false) (fun K => M (e 7) fun v => K v w) (fun t74 w =>
    G (isB t71 false) (fun K => N (xv (Instr.indexAt 34 t73 t74)) w K) (fun t75 w =>
    G (isB t71 false) (fun K => N (xv (Instr.fieldAt 41 t75 1)) w K) (fun t76 w =>
    G (isB t71 false) (fun K => N (xv (Instr.loadAt 30 t76)) w K) (fun t77 w =>
    G (isB t71 false) (fun K => N (builtin Builtin.len #[30] 3 ([false]).toArray ([t77]).toArray) w K) (fun t78 w =>
    G (isB t71 false) (fun K => N (xv (Instr.indexAt 30 t72 t78)) w K) (fun t79 w =>
    G (isB t71 false) (fun K => N (xv (Instr.loadAt 9 t79)) w K) (fun t80 w =>
    G (isB t71 false) (fun K => N (xv (xbin BinOp.neq 9 (Operand.tmp 80) (Operand.const (Value.string ⟨#[115, 112, 97, 114, 101]⟩)) t80 (Value.string ⟨#[115, 112, 97, 114, 101]⟩))) w K) (fun t81 w =>
    N (xpick t71 (Value.bool true) t81) w fun t82 w =>
    k (Env.p e 82 t82) w) w) w) w) w) w) w) w) w) w) w) w) w) w) := nr (by kernel_rfl)
theorem o6_11_eq : opsW N M G 170 V6 o6_11 k o6_11.toList [] e e w =
    (M (Value.bool false) fun t4 =>
    k (Env.p e 4 t4) w) := nr (by kernel_rfl)
theorem c6_69_s (hw : Cur w) : W3 Try.prog 170 V6 c6_69 Q e w = (opsW (nx Try.prog) mv gdP 170 V6 o6_11 (fun e w => Q .ret e w) o6_11.toList [] e e w) := by rw [(by kernel_rfl : c6_69 = .seq (.region 11 o6_11 false) Code.ret), W3_seq_reg]; simp only [W3_ret, W3_skip, W3_exit, W3_label]
theorem c6_68_v : opV V6 (.tmp 82) = true := by kernel_rfl
theorem c6_68_s (hw : Cur w) : W3 Try.prog 170 V6 c6_68 Q e w = (condP (ev e (.tmp 82)) (W3 Try.prog 170 V6 c6_69 Q e w) (Q .normal e w)) := by rw [(by kernel_rfl : c6_68 = .cond (.tmp 82) c6_69 Code.skip), W3_cond, c6_68_v, cond_true]; simp only [W3_ret, W3_skip, W3_exit, W3_label]
theorem c6_67_s (hw : Cur w) : W3 Try.prog 170 V6 c6_67 Q e w = (opsW (nx Try.prog) mv gdP 170 V6 o6_10 (fun e w => W3 Try.prog 170 V6 c6_68 Q e w) o6_10.toList [] e e w) := by rw [(by kernel_rfl : c6_67 = .seq (.region 10 o6_10 false) c6_68), W3_seq_reg]
theorem c6_56_s (hw : Cur w) : W3 Try.prog 170 V6 c6_56 Q e w = (W3 Try.prog 170 V6 c6_67 (seqQ (fun e w => W3 Try.prog 170 V6 c6_57 Q e w) Q) e w) := by rw [(by kernel_rfl : c6_56 = .seq c6_67 c6_57), W3_seq]
theorem c6_55_s (hw : Cur w) : W3 Try.prog 170 V6 c6_55 Q e w = (opsW (nx Try.prog) mv gdP 170 V6 o6_9 (fun e w => W3 Try.prog 170 V6 c6_56 Q e w) o6_9.toList [] e e w) := by rw [(by kernel_rfl : c6_55 = .seq (.region 9 o6_9 false) c6_56), W3_seq_reg]
theorem c6_54_s (hw : Cur w) : W3 Try.prog 170 V6 c6_54 Q e w = (opsW (nx Try.prog) mv gdP 170 V6 o6_8 (fun e w => W3 Try.prog 170 V6 c6_55 Q e w) o6_8.toList [] e e w) := by rw [(by kernel_rfl : c6_54 = .seq (.region 8 o6_8 false) c6_55), W3_seq_reg]
theorem c6_53_s (hw : Cur w) : W3 Try.prog 170 V6 c6_53 Q e w = (opsW (nx Try.prog) mv gdP 170 V6 o6_7 (fun e w => W3 Try.prog 170 V6 c6_54 Q e w) o6_7.toList [] e e w) := by rw [(by kernel_rfl : c6_53 = .seq (.region 7 o6_7 false) c6_54), W3_seq_reg]
theorem c6_52_s (hw : Cur w) : W3 Try.prog 170 V6 c6_52 Q e w = (W3 Try.prog 170 V6 c6_53 (blockQ 1 Q) e w) := by rw [(by kernel_rfl : c6_52 = .block 1 c6_53), W3_block]
theorem c6_50_s (hw : Cur w) : W3 Try.prog 170 V6 c6_50 Q e w = (W3 Try.prog 170 V6 c6_52 (seqQ (fun e w => W3 Try.prog 170 V6 c6_51 Q e w) Q) e w) := by rw [(by kernel_rfl : c6_50 = .seq c6_52 c6_51), W3_seq]
theorem o6_5_eq : opsW N M G 170 V6 o6_5 k o6_5.toList [] e e w =
    (M (e 7) fun t25 =>
    M (e 0) fun t26 =>
    N (builtin Builtin.len #[34] 3 ([false]).toArray ([t26]).toArray) w fun t27 w =>
    N (xv (xbin BinOp.lss 3 (Operand.tmp 25) (Operand.tmp 27) t25 t27)) w fun t28 w =>
    k (Env.p e 28 t28) w) := nr (by kernel_rfl)
theorem c6_71_v : opV V6 (.tmp 28) = true := by kernel_rfl
theorem c6_71_s (hw : Cur w) : W3 Try.prog 170 V6 c6_71 Q e w = (condP (ev e (.tmp 28)) (Q .normal e w) (Q (.exit 0) e w)) := by rw [(by kernel_rfl : c6_71 = .cond (.tmp 28) Code.skip (Code.exit 0)), W3_cond, c6_71_v, cond_true]; simp only [W3_ret, W3_skip, W3_exit, W3_label]
theorem c6_70_s (hw : Cur w) : W3 Try.prog 170 V6 c6_70 Q e w = (opsW (nx Try.prog) mv gdP 170 V6 o6_5 (fun e w => W3 Try.prog 170 V6 c6_71 Q e w) o6_5.toList [] e e w) := by rw [(by kernel_rfl : c6_70 = .seq (.region 5 o6_5 false) c6_71), W3_seq_reg]
theorem c6_49_s (hw : Cur w) : W3 Try.prog 170 V6 c6_49 Q e w = (W3 Try.prog 170 V6 c6_70 (seqQ (fun e w => W3 Try.prog 170 V6 c6_50 Q e w) Q) e w) := by rw [(by kernel_rfl : c6_49 = .seq c6_70 c6_50), W3_seq]
theorem c6_48_s (hw : Cur w) : W3 Try.prog 170 V6 c6_48 Q e w = (LoopP (fun e w k => W3 Try.prog 170 V6 c6_49 (seqQ k Q) e w) e w) := by rw [(by kernel_rfl : c6_48 = .loop c6_49), W3_loop]
theorem c6_47_s (hw : Cur w) : W3 Try.prog 170 V6 c6_47 Q e w = (W3 Try.prog 170 V6 c6_48 (blockQ 0 Q) e w) := by rw [(by kernel_rfl : c6_47 = .block 0 c6_48), W3_block]
theorem c6_46_s (hw : Cur w) : W3 Try.prog 170 V6 c6_46 Q e w = (opsW (nx Try.prog) mv gdP 170 V6 o6_4 (fun e w => W3 Try.prog 170 V6 c6_47 Q e w) o6_4.toList [] e e w) := by rw [(by kernel_rfl : c6_46 = .seq (.region 4 o6_4 false) c6_47), W3_seq_reg]
theorem c6_3_s (hw : Cur w) : W3 Try.prog 170 V6 c6_3 Q e w = (W3 Try.prog 170 V6 c6_46 (seqQ (fun e w => W3 Try.prog 170 V6 c6_4 Q e w) Q) e w) := by rw [(by kernel_rfl : c6_3 = .seq c6_46 c6_4), W3_seq]
theorem c6_2_s (hw : Cur w) : W3 Try.prog 170 V6 c6_2 Q e w = (opsW (nx Try.prog) mv gdP 170 V6 o6_3 (fun e w => W3 Try.prog 170 V6 c6_3 Q e w) o6_3.toList [] e e w) := by rw [(by kernel_rfl : c6_2 = .seq (.region 3 o6_3 false) c6_3), W3_seq_reg]
theorem o6_1_eq : opsW N M G 170 V6 o6_1 k o6_1.toList [] e e w =
    (N (xcall (Value.func (Fn.func 8) #[] #[]) []) w fun t20 w =>
    N (xv (Op.unary UnOp.not t20)) w fun t21 w =>
    k (Env.p e 21 t21) w) := nr (by kernel_rfl)
theorem o6_2_eq : opsW N M G 170 V6 o6_2 k o6_2.toList [] e e w =
    (M (Value.bool false) fun t4 =>
    k (Env.p e 4 t4) w) := nr (by kernel_rfl)
theorem c6_74_s (hw : Cur w) : W3 Try.prog 170 V6 c6_74 Q e w = (opsW (nx Try.prog) mv gdP 170 V6 o6_2 (fun e w => Q .ret e w) o6_2.toList [] e e w) := by rw [(by kernel_rfl : c6_74 = .seq (.region 2 o6_2 false) Code.ret), W3_seq_reg]; simp only [W3_ret, W3_skip, W3_exit, W3_label]
theorem c6_73_v : opV V6 (.tmp 21) = true := by kernel_rfl
theorem c6_73_s (hw : Cur w) : W3 Try.prog 170 V6 c6_73 Q e w = (condP (ev e (.tmp 21)) (W3 Try.prog 170 V6 c6_74 Q e w) (Q .normal e w)) := by rw [(by kernel_rfl : c6_73 = .cond (.tmp 21) c6_74 Code.skip), W3_cond, c6_73_v, cond_true]; simp only [W3_ret, W3_skip, W3_exit, W3_label]
theorem c6_72_s (hw : Cur w) : W3 Try.prog 170 V6 c6_72 Q e w = (opsW (nx Try.prog) mv gdP 170 V6 o6_1 (fun e w => W3 Try.prog 170 V6 c6_73 Q e w) o6_1.toList [] e e w) := by rw [(by kernel_rfl : c6_72 = .seq (.region 1 o6_1 false) c6_73), W3_seq_reg]
theorem c6_1_s (hw : Cur w) : W3 Try.prog 170 V6 c6_1 Q e w = (W3 Try.prog 170 V6 c6_72 (seqQ (fun e w => W3 Try.prog 170 V6 c6_2 Q e w) Q) e w) := by rw [(by kernel_rfl : c6_1 = .seq c6_72 c6_2), W3_seq]
theorem c6_s (hw : Cur w) : W3 Try.prog 170 V6 c6 Q e w = (opsW (nx Try.prog) mv gdP 170 V6 o6_0 (fun e w => W3 Try.prog 170 V6 c6_1 Q e w) o6_0.toList [] e e w) := by rw [(by kernel_rfl : c6 = .seq (.region 0 o6_0 false) c6_1), W3_seq_reg]
theorem call6 {a0 a1 : Value} {w : World} {R : Value → World → Prop} (h : W3 Try.prog 170 V6 c6 (retQ Try.prog [.tmp 4] R) (argE [a0, a1]) w) : CallsN Try.prog 6 [a0, a1] w R :=
  callsN_of_W3 (c := c6) (rs := [.tmp 4]) V6 Try.ntmps6 (by rw [Try.results6]) mixed Try.func6 (by kernel_rfl) (by kernel_rfl) (by kernel_rfl) (by kernel_rfl) (by simp) h
noncomputable def hk6 := And.intro (@o6_0_eq) <| And.intro (@o6_3_eq) <| And.intro (@o6_16_eq) <| And.intro (@o6_25_eq) <| And.intro (@o6_33_eq) <| And.intro (@c6_9_s) <| And.intro (@o6_28_eq) <| And.intro (@o6_30_eq) <| And.intro (@c6_15_s) <| And.intro (@o6_31_eq) <| And.intro (@o6_32_eq) <| And.intro (@c6_19_s) <| And.intro (@c6_18_s) <| And.intro (@c6_17_s) <| And.intro (@c6_16_s) <| And.intro (@c6_14_s) <| And.intro (@o6_29_eq) <| And.intro (@c6_21_s) <| And.intro (@c6_20_s) <| And.intro (@c6_13_s) <| And.intro (@c6_12_s) <| And.intro (@c6_11_s) <| And.intro (@c6_10_s) <| And.intro (@c6_8_s) <| And.intro (@o6_26_eq) <| And.intro (@o6_27_eq) <| And.intro (@c6_24_s) <| And.intro (@c6_23_s) <| And.intro (@c6_22_s) <| And.intro (@c6_7_s) <| And.intro (@c6_6_s) <| And.intro (@o6_17_eq) <| And.intro (@o6_19_eq) <| And.intro (@c6_30_s) <| And.intro (@o6_24_eq) <| And.intro (@c6_33_s) <| And.intro (@o6_20_eq) <| And.intro (@o6_22_eq) <| And.intro (@c6_39_s) <| And.intro (@o6_23_eq) <| And.intro (@c6_41_s) <| And.intro (@c6_40_s) <| And.intro (@c6_38_s) <| And.intro (@o6_21_eq) <| And.intro (@c6_43_s) <| And.intro (@c6_42_s) <| And.intro (@c6_37_s) <| And.intro (@c6_36_s) <| And.intro (@c6_35_s) <| And.intro (@c6_34_s) <| And.intro (@c6_32_s) <| And.intro (@c6_31_s) <| And.intro (@c6_29_s) <| And.intro (@o6_18_eq) <| And.intro (@c6_45_s) <| And.intro (@c6_44_s) <| And.intro (@c6_28_s) <| And.intro (@c6_27_s) <| And.intro (@c6_26_s) <| And.intro (@c6_25_s) <| And.intro (@c6_5_s) <| And.intro (@c6_4_s) <| And.intro (@o6_4_eq) <| And.intro (@o6_6_eq) <| And.intro (@c6_51_s) <| And.intro (@o6_7_eq) <| And.intro (@o6_8_eq) <| And.intro (@o6_9_eq) <| And.intro (@o6_12_eq) <| And.intro (@o6_14_eq) <| And.intro (@c6_62_s) <| And.intro (@o6_15_eq) <| And.intro (@c6_64_s) <| And.intro (@c6_63_s) <| And.intro (@c6_61_s) <| And.intro (@o6_13_eq) <| And.intro (@c6_66_s) <| And.intro (@c6_65_s) <| And.intro (@c6_60_s) <| And.intro (@c6_59_s) <| And.intro (@c6_58_s) <| And.intro (@c6_57_s) <| And.intro (@o6_10_eq) <| And.intro (@o6_11_eq) <| And.intro (@c6_69_s) <| And.intro (@c6_68_s) <| And.intro (@c6_67_s) <| And.intro (@c6_56_s) <| And.intro (@c6_55_s) <| And.intro (@c6_54_s) <| And.intro (@c6_53_s) <| And.intro (@c6_52_s) <| And.intro (@c6_50_s) <| And.intro (@o6_5_eq) <| And.intro (@c6_71_s) <| And.intro (@c6_70_s) <| And.intro (@c6_49_s) <| And.intro (@c6_48_s) <| And.intro (@c6_47_s) <| And.intro (@c6_46_s) <| And.intro (@c6_3_s) <| And.intro (@c6_2_s) <| And.intro (@o6_1_eq) <| And.intro (@o6_2_eq) <| And.intro (@c6_74_s) <| And.intro (@c6_73_s) <| And.intro (@c6_72_s) <| And.intro (@c6_1_s) <| @c6_s
-- K6: ↓hk6
end
end Go.Proofs.Ytenokheiindfkab
