/- The equations of the code of some functions, written by the printer gen.py: each is checked by the kernel. -/
import Derived.Test.YtenokheiindfkaaQ0
import Derived.Test.YtenokheiindfkaaCB
set_option linter.unusedVariables false
set_option linter.unusedSimpArgs false
set_option maxRecDepth 100000
namespace Go.Proofs.Ytenokheiindfkaa
open Go.VW
noncomputable section
set_option linter.defProp false
variable {N : Sem Next → World → (Value → World → Prop) → Prop} {T : Sem Next → (Value → Prop) → Prop} {M : Value → (Value → Prop) → Prop} {G : Bool → ((Value → World → Prop) → Prop) → (Value → World → Prop) → World → Prop}
  {H : Bool → ((Value → Prop) → Prop) → (Value → Prop) → Prop} {S : World → Prop} {k : Env → World → Prop} {Q : Exit → Env → World → Prop} {e : Env} {w : World}
  {T2 : Nat → Sem Next → (Value → Prop) → Prop} {S2 : Nat → World → Prop}
/-! ### vouch/vouchlaw07.GapWhole -/
def V8 : Nat → Bool := fun i => [0, 1, 4, 5, 6, 7, 8, 9, 10, 11, 12, 13, 14, 15, 17, 21, 37, 70, 87, 91, 102].elem i
noncomputable def c8 : Code := (Try.f8.body.getD .skip)
noncomputable def o8_0 : Array Oper := rO (cL c8)
noncomputable def c8_1 : Code := (cR c8)
noncomputable def c8_2 : Code := (cR c8_1)
noncomputable def o8_3 : Array Oper := rO (cL c8_2)
noncomputable def c8_3 : Code := (cR c8_2)
noncomputable def c8_4 : Code := (cR c8_3)
noncomputable def c8_5 : Code := (cR c8_4)
noncomputable def o8_14 : Array Oper := rO (cL c8_5)
noncomputable def c8_6 : Code := (cR c8_5)
noncomputable def o8_15 : Array Oper := rO (cL c8_6)
noncomputable def c8_7 : Code := (cR c8_6)
noncomputable def c8_8 : Code := (cR c8_7)
noncomputable def o8_28 : Array Oper := rO (cL c8_8)
noncomputable def c8_9 : Code := (cL c8_7)
noncomputable def o8_16 : Array Oper := rO (cL c8_9)
noncomputable def c8_10 : Code := (cR c8_9)
noncomputable def c8_11 : Code := (cL c8_10)
noncomputable def c8_12 : Code := (cL c8_11)
noncomputable def c8_13 : Code := (cR c8_12)
noncomputable def c8_14 : Code := (cR c8_13)
noncomputable def o8_18 : Array Oper := rO c8_14
noncomputable def c8_15 : Code := (cL c8_13)
noncomputable def c8_16 : Code := (cL c8_15)
noncomputable def o8_19 : Array Oper := rO (cL c8_16)
noncomputable def c8_17 : Code := (cR c8_16)
noncomputable def c8_18 : Code := (cR c8_17)
noncomputable def o8_22 : Array Oper := rO (cL c8_18)
noncomputable def c8_19 : Code := (cR c8_18)
noncomputable def c8_20 : Code := (cL c8_19)
noncomputable def c8_21 : Code := (cL c8_20)
noncomputable def c8_22 : Code := (cR c8_21)
noncomputable def c8_23 : Code := (cR c8_22)
noncomputable def o8_24 : Array Oper := rO c8_23
noncomputable def c8_24 : Code := (cL c8_22)
noncomputable def c8_25 : Code := (cL c8_24)
noncomputable def o8_25 : Array Oper := rO (cL c8_25)
noncomputable def c8_26 : Code := (cR c8_25)
noncomputable def o8_26 : Array Oper := rO (cL c8_26)
noncomputable def c8_27 : Code := (cR c8_26)
noncomputable def c8_28 : Code := (cL c8_27)
noncomputable def o8_27 : Array Oper := rO (cL c8_28)
noncomputable def c8_29 : Code := (cL c8_21)
noncomputable def o8_23 : Array Oper := rO (cL c8_29)
noncomputable def c8_30 : Code := (cR c8_29)
noncomputable def c8_31 : Code := (cL c8_17)
noncomputable def o8_20 : Array Oper := rO (cL c8_31)
noncomputable def c8_32 : Code := (cR c8_31)
noncomputable def c8_33 : Code := (cL c8_32)
noncomputable def o8_21 : Array Oper := rO (cL c8_33)
noncomputable def c8_34 : Code := (cL c8_12)
noncomputable def o8_17 : Array Oper := rO (cL c8_34)
noncomputable def c8_35 : Code := (cR c8_34)
noncomputable def c8_36 : Code := (cL c8_4)
noncomputable def o8_8 : Array Oper := rO (cL c8_36)
noncomputable def c8_37 : Code := (cR c8_36)
noncomputable def c8_38 : Code := (cL c8_37)
noncomputable def c8_39 : Code := (cL c8_38)
noncomputable def c8_40 : Code := (cR c8_39)
noncomputable def c8_41 : Code := (cR c8_40)
noncomputable def o8_10 : Array Oper := rO c8_41
noncomputable def c8_42 : Code := (cL c8_40)
noncomputable def c8_43 : Code := (cL c8_42)
noncomputable def o8_11 : Array Oper := rO (cL c8_43)
noncomputable def c8_44 : Code := (cR c8_43)
noncomputable def o8_12 : Array Oper := rO (cL c8_44)
noncomputable def c8_45 : Code := (cR c8_44)
noncomputable def o8_13 : Array Oper := rO c8_45
noncomputable def c8_46 : Code := (cL c8_39)
noncomputable def o8_9 : Array Oper := rO (cL c8_46)
noncomputable def c8_47 : Code := (cR c8_46)
noncomputable def c8_48 : Code := (cL c8_3)
noncomputable def o8_4 : Array Oper := rO (cL c8_48)
noncomputable def c8_49 : Code := (cR c8_48)
noncomputable def c8_50 : Code := (cL c8_49)
noncomputable def c8_51 : Code := (cL c8_50)
noncomputable def c8_52 : Code := (cR c8_51)
noncomputable def c8_53 : Code := (cR c8_52)
noncomputable def o8_6 : Array Oper := rO c8_53
noncomputable def c8_54 : Code := (cL c8_52)
noncomputable def c8_55 : Code := (cL c8_54)
noncomputable def o8_7 : Array Oper := rO c8_55
noncomputable def c8_56 : Code := (cL c8_51)
noncomputable def o8_5 : Array Oper := rO (cL c8_56)
noncomputable def c8_57 : Code := (cR c8_56)
noncomputable def c8_58 : Code := (cL c8_1)
noncomputable def o8_1 : Array Oper := rO (cL c8_58)
noncomputable def c8_59 : Code := (cR c8_58)
noncomputable def c8_60 : Code := (cL c8_59)
noncomputable def o8_2 : Array Oper := rO (cL c8_60)
theorem o8_0_eq : opsW N M G 113 V8 o8_0 k o8_0.toList [] e e w =
    (M (Value.bool false) fun t4 =>
    k (Env.p e 4 t4) w) := nr (by kernel_rfl)
theorem o8_3_eq : opsW N M G 113 V8 o8_3 k o8_3.toList [] e e w =
    (M (Value.slice none 0 0) fun t5 =>
    k (Env.p e 5 t5) w) := nr (by kernel_rfl)
theorem o8_14_eq : opsW N M G 113 V8 o8_14 k o8_14.toList [] e e w =
    (N (xcall (Value.func (Fn.func 35) #[] #[]) [(Value.int IntKind.i64 0), (Value.int IntKind.i64 256)]) w fun t66 w =>
    M t66 fun t10 =>
    k (Env.p e 10 t10) w) := nr (by kernel_rfl)
theorem o8_15_eq : opsW N M G 113 V8 o8_15 k o8_15.toList [] e e w =
    (M (Value.int IntKind.i64 0) fun t11 =>
    k (Env.p e 11 t11) w) := nr (by kernel_rfl)
theorem o8_28_eq : opsW N M G 113 V8 o8_28 k o8_28.toList [] e e w =
    (M (e 11) fun t103 =>
    M (e 0) fun t104 =>
    N (xv (convert 5 2 t104)) w fun t105 w =>
    N (xv (xbin BinOp.eql 2 (Operand.tmp 103) (Operand.tmp 105) t103 t105)) w fun t106 w =>
    M t106 fun t107 =>
    G (isB t107 true) (fun K => M (e 10) fun v => K v w) (fun t108 w =>
    G (isB t107 true) (fun K => N (xcall (Value.func (Fn.func 37) #[] #[]) [t108]) w K) (fun t109 w =>
    G (isB t107 true) (fun K => N (builtin Builtin.len #[71] 3 ([false]).toArray ([t109]).toArray) w K) (fun t110 w =>
    G (isB t107 true) (fun K => N (xv (xbin BinOp.eql 3 (Operand.tmp 110) (Operand.const (Value.int IntKind.i64 0)) t110 (Value.int IntKind.i64 0))) w K) (fun t111 w =>
    N (xpick t107 t111 (Value.bool false)) w fun t112 w =>
    M t112 fun t4 =>
    k (Env.p e 4 t4) w) w) w) w) w) := nr (by kernel_rfl)
theorem c8_8_s (hw : Cur w) : W2 Try.prog 113 V8 c8_8 Q e w = (opsW (nx Try.prog) mv gdP 113 V8 o8_28 (fun e w => Q .ret e w) o8_28.toList [] e e w) := by rw [(by kernel_rfl : c8_8 = .seq (.region 28 o8_28 false) Code.ret), W2_seq_reg]; simp only [W2_ret, W2_skip, W2_exit, W2_label]
theorem o8_16_eq : opsW N M G 113 V8 o8_16 k o8_16.toList [] e e w =
    (M (Value.int IntKind.i64 0) fun t12 =>
    k (Env.p e 12 t12) w) := nr (by kernel_rfl)
theorem o8_18_eq : opsW N M G 113 V8 o8_18 k o8_18.toList [] e e w =
    (M (e 12) fun t71 =>
    N (xv (xbin BinOp.add 3 (Operand.tmp 71) (Operand.const (Value.int IntKind.i64 1)) t71 (Value.int IntKind.i64 1))) w fun t72 w =>
    M t72 fun t12 =>
    k (Env.p e 12 t12) w) := nr (by kernel_rfl)
theorem c8_14_s (hw : Cur w) : W2 Try.prog 113 V8 c8_14 Q e w = (opsW (nx Try.prog) mv gdP 113 V8 o8_18 (fun e w => Q .normal e w) o8_18.toList [] e e w) := by rw [(by kernel_rfl : c8_14 = (.region 18 o8_18 false)), W2_reg]
theorem o8_19_eq : drawGo2 N T2 M G H 113 V8 o8_19 S2 k o8_19.size [] (Array.replicate o8_19.size false) [] e e w =
    (S2 0 w ∧ (M (e 10) fun t74 =>
    S2 1 w ∧ (M (e 5) fun t75 =>
    S2 2 w ∧ (M (e 12) fun t76 =>
    S2 3 w ∧ (T2 3 (xv (Instr.indexAt 71 t75 t76)) fun t77 =>
    S2 4 w ∧ (T2 4 (xv (Instr.loadAt 2 t77)) fun t78 =>
    S2 5 w ∧ (M (e 5) fun t79 =>
    S2 6 w ∧ (M (e 12) fun t80 =>
    S2 7 w ∧ (T2 7 (xv (Instr.indexAt 71 t79 t80)) fun t81 =>
    S2 8 w ∧ (T2 8 (xv (Instr.loadAt 2 t81)) fun t82 =>
    S2 9 w ∧ (T2 9 (xv (Op.unary UnOp.neg t82)) fun t83 =>
    N (xcall (Value.func (Fn.func 36) #[] #[]) [t74, t78, t83]) w fun t84 w =>
    S2 8 w ∧ (S2 7 w ∧ (S2 6 w ∧ (S2 5 w ∧ (S2 3 w ∧ (S2 2 w ∧ (S2 1 w ∧ (S2 11 w ∧ (M t84 fun t73 =>
    S2 12 w ∧ (T2 12 (xv (Instr.extract t73 0)) fun t85 =>
    S2 13 w ∧ (T2 13 (xv (Instr.extract t73 1)) fun t86 =>
    S2 14 w ∧ (M t85 fun t13 =>
    S2 15 w ∧ (M t86 fun t14 =>
    k (Env.p (Env.p e 13 t13) 14 t14) w))))))))))))))))))))))) := nr (by kernel_rfl)
theorem o8_22_eq : opsW N M G 113 V8 o8_22 k o8_22.toList [] e e w =
    (M (Value.int IntKind.i64 0) fun t15 =>
    k (Env.p e 15 t15) w) := nr (by kernel_rfl)
theorem o8_24_eq : opsW N M G 113 V8 o8_24 k o8_24.toList [] e e w =
    (M (e 15) fun t92 =>
    N (xv (xbin BinOp.add 3 (Operand.tmp 92) (Operand.const (Value.int IntKind.i64 1)) t92 (Value.int IntKind.i64 1))) w fun t93 w =>
    M t93 fun t15 =>
    k (Env.p e 15 t15) w) := nr (by kernel_rfl)
theorem c8_23_s (hw : Cur w) : W2 Try.prog 113 V8 c8_23 Q e w = (opsW (nx Try.prog) mv gdP 113 V8 o8_24 (fun e w => Q .normal e w) o8_24.toList [] e e w) := by rw [(by kernel_rfl : c8_23 = (.region 24 o8_24 false)), W2_reg]
theorem o8_25_eq : opsW N M G 113 V8 o8_25 k o8_25.toList [] e e w =
    (M (e 11) fun t94 =>
    N (xv (xbin BinOp.add 2 (Operand.tmp 94) (Operand.const (Value.int IntKind.i64 1)) t94 (Value.int IntKind.i64 1))) w fun t95 w =>
    M t95 fun t11 =>
    k (Env.p e 11 t11) w) := nr (by kernel_rfl)
theorem o8_26_eq : opsW N M G 113 V8 o8_26 k o8_26.toList [] e e w =
    (M (e 13) fun t96 =>
    M (e 15) fun t97 =>
    N (xv (Instr.indexAt 71 t96 t97)) w fun t98 w =>
    N (xv (Instr.loadAt 2 t98)) w fun t99 w =>
    M (e 11) fun t100 =>
    N (xv (Op.unary UnOp.neg t100)) w fun t101 w =>
    N (xv (xbin BinOp.neq 2 (Operand.tmp 99) (Operand.tmp 101) t99 t101)) w fun t102 w =>
    k (Env.p e 102 t102) w) := nr (by kernel_rfl)
theorem o8_27_eq : opsW N M G 113 V8 o8_27 k o8_27.toList [] e e w =
    (M (Value.bool false) fun t4 =>
    k (Env.p e 4 t4) w) := nr (by kernel_rfl)
theorem c8_28_s (hw : Cur w) : W2 Try.prog 113 V8 c8_28 Q e w = (opsW (nx Try.prog) mv gdP 113 V8 o8_27 (fun e w => Q .ret e w) o8_27.toList [] e e w) := by rw [(by kernel_rfl : c8_28 = .seq (.region 27 o8_27 false) Code.ret), W2_seq_reg]; simp only [W2_ret, W2_skip, W2_exit, W2_label]
theorem c8_27_v : opV V8 (.tmp 102) = true := by kernel_rfl
theorem c8_27_s (hw : Cur w) : W2 Try.prog 113 V8 c8_27 Q e w = (condP (ev e (.tmp 102)) (W2 Try.prog 113 V8 c8_28 Q e w) (Q .normal e w)) := by rw [(by kernel_rfl : c8_27 = .cond (.tmp 102) c8_28 Code.skip), W2_cond, c8_27_v, cond_true]; simp only [W2_ret, W2_skip, W2_exit, W2_label]
theorem c8_26_s (hw : Cur w) : W2 Try.prog 113 V8 c8_26 Q e w = (opsW (nx Try.prog) mv gdP 113 V8 o8_26 (fun e w => W2 Try.prog 113 V8 c8_27 Q e w) o8_26.toList [] e e w) := by rw [(by kernel_rfl : c8_26 = .seq (.region 26 o8_26 false) c8_27), W2_seq_reg]
theorem c8_25_s (hw : Cur w) : W2 Try.prog 113 V8 c8_25 Q e w = (opsW (nx Try.prog) mv gdP 113 V8 o8_25 (fun e w => W2 Try.prog 113 V8 c8_26 Q e w) o8_25.toList [] e e w) := by rw [(by kernel_rfl : c8_25 = .seq (.region 25 o8_25 false) c8_26), W2_seq_reg]
theorem c8_24_s (hw : Cur w) : W2 Try.prog 113 V8 c8_24 Q e w = (W2 Try.prog 113 V8 c8_25 (blockQ 7 Q) e w) := by rw [(by kernel_rfl : c8_24 = .block 7 c8_25), W2_block]
theorem c8_22_s (hw : Cur w) : W2 Try.prog 113 V8 c8_22 Q e w = (W2 Try.prog 113 V8 c8_24 (seqQ (fun e w => W2 Try.prog 113 V8 c8_23 Q e w) Q) e w) := by rw [(by kernel_rfl : c8_22 = .seq c8_24 c8_23), W2_seq]
theorem o8_23_eq : opsW N M G 113 V8 o8_23 k o8_23.toList [] e e w =
    (M (e 15) fun t88 =>
    M (e 13) fun t89 =>
    N (builtin Builtin.len #[71] 3 ([false]).toArray ([t89]).toArray) w fun t90 w =>
    N (xv (xbin BinOp.lss 3 (Operand.tmp 88) (Operand.tmp 90) t88 t90)) w fun t91 w =>
    k (Env.p e 91 t91) w) := nr (by kernel_rfl)
theorem c8_30_v : opV V8 (.tmp 91) = true := by kernel_rfl
theorem c8_30_s (hw : Cur w) : W2 Try.prog 113 V8 c8_30 Q e w = (condP (ev e (.tmp 91)) (Q .normal e w) (Q (.exit 6) e w)) := by rw [(by kernel_rfl : c8_30 = .cond (.tmp 91) Code.skip (Code.exit 6)), W2_cond, c8_30_v, cond_true]; simp only [W2_ret, W2_skip, W2_exit, W2_label]
theorem c8_29_s (hw : Cur w) : W2 Try.prog 113 V8 c8_29 Q e w = (opsW (nx Try.prog) mv gdP 113 V8 o8_23 (fun e w => W2 Try.prog 113 V8 c8_30 Q e w) o8_23.toList [] e e w) := by rw [(by kernel_rfl : c8_29 = .seq (.region 23 o8_23 false) c8_30), W2_seq_reg]
theorem c8_21_s (hw : Cur w) : W2 Try.prog 113 V8 c8_21 Q e w = (W2 Try.prog 113 V8 c8_29 (seqQ (fun e w => W2 Try.prog 113 V8 c8_22 Q e w) Q) e w) := by rw [(by kernel_rfl : c8_21 = .seq c8_29 c8_22), W2_seq]
theorem c8_20_s (hw : Cur w) : W2 Try.prog 113 V8 c8_20 Q e w = (LoopP (fun e w k => W2 Try.prog 113 V8 c8_21 (seqQ k Q) e w) e w) := by rw [(by kernel_rfl : c8_20 = .loop c8_21), W2_loop]
theorem c8_19_s (hw : Cur w) : W2 Try.prog 113 V8 c8_19 Q e w = (W2 Try.prog 113 V8 c8_20 (blockQ 6 Q) e w) := by rw [(by kernel_rfl : c8_19 = .block 6 c8_20), W2_block]
theorem c8_18_s (hw : Cur w) : W2 Try.prog 113 V8 c8_18 Q e w = (opsW (nx Try.prog) mv gdP 113 V8 o8_22 (fun e w => W2 Try.prog 113 V8 c8_19 Q e w) o8_22.toList [] e e w) := by rw [(by kernel_rfl : c8_18 = .seq (.region 22 o8_22 false) c8_19), W2_seq_reg]
theorem o8_20_eq : opsW N M G 113 V8 o8_20 k o8_20.toList [] e e w =
    (M (e 14) fun t87 =>
    k (Env.p e 87 t87) w) := nr (by kernel_rfl)
theorem o8_21_eq : opsW N M G 113 V8 o8_21 k o8_21.toList [] e e w =
    (M (Value.bool false) fun t4 =>
    k (Env.p e 4 t4) w) := nr (by kernel_rfl)
theorem c8_33_s (hw : Cur w) : W2 Try.prog 113 V8 c8_33 Q e w = (opsW (nx Try.prog) mv gdP 113 V8 o8_21 (fun e w => Q .ret e w) o8_21.toList [] e e w) := by rw [(by kernel_rfl : c8_33 = .seq (.region 21 o8_21 false) Code.ret), W2_seq_reg]; simp only [W2_ret, W2_skip, W2_exit, W2_label]
theorem c8_32_v : opV V8 (.tmp 87) = true := by kernel_rfl
theorem c8_32_s (hw : Cur w) : W2 Try.prog 113 V8 c8_32 Q e w = (condP (ev e (.tmp 87)) (W2 Try.prog 113 V8 c8_33 Q e w) (Q .normal e w)) := by rw [(by kernel_rfl : c8_32 = .cond (.tmp 87) c8_33 Code.skip), W2_cond, c8_32_v, cond_true]; simp only [W2_ret, W2_skip, W2_exit, W2_label]
theorem c8_31_s (hw : Cur w) : W2 Try.prog 113 V8 c8_31 Q e w = (opsW (nx Try.prog) mv gdP 113 V8 o8_20 (fun e w => W2 Try.prog 113 V8 c8_32 Q e w) o8_20.toList [] e e w) := by rw [(by kernel_rfl : c8_31 = .seq (.region 20 o8_20 false) c8_32), W2_seq_reg]
theorem c8_17_s (hw : Cur w) : W2 Try.prog 113 V8 c8_17 Q e w = (W2 Try.prog 113 V8 c8_31 (seqQ (fun e w => W2 Try.prog 113 V8 c8_18 Q e w) Q) e w) := by rw [(by kernel_rfl : c8_17 = .seq c8_31 c8_18), W2_seq]
theorem c8_16_s (hw : Cur w) : W2 Try.prog 113 V8 c8_16 Q e w = (∃ S : Nat → World → Prop, drawGo2 (nx Try.prog) (fun i => takeP Try.prog (S i)) mv gdP gdT 113 V8 o8_19 S (fun e w => W2 Try.prog 113 V8 c8_17 Q e w) o8_19.size [] (Array.replicate o8_19.size false) [] e e w.drew) := by rw [(by kernel_rfl : c8_16 = .seq (.region 19 o8_19 true) c8_17), W2_seq_regD]
theorem c8_15_s (hw : Cur w) : W2 Try.prog 113 V8 c8_15 Q e w = (W2 Try.prog 113 V8 c8_16 (blockQ 5 Q) e w) := by rw [(by kernel_rfl : c8_15 = .block 5 c8_16), W2_block]
theorem c8_13_s (hw : Cur w) : W2 Try.prog 113 V8 c8_13 Q e w = (W2 Try.prog 113 V8 c8_15 (seqQ (fun e w => W2 Try.prog 113 V8 c8_14 Q e w) Q) e w) := by rw [(by kernel_rfl : c8_13 = .seq c8_15 c8_14), W2_seq]
theorem o8_17_eq : opsW N M G 113 V8 o8_17 k o8_17.toList [] e e w =
    (M (e 12) fun t67 =>
    M (e 5) fun t68 =>
    N (builtin Builtin.len #[71] 3 ([false]).toArray ([t68]).toArray) w fun t69 w =>
    N (xv (xbin BinOp.lss 3 (Operand.tmp 67) (Operand.tmp 69) t67 t69)) w fun t70 w =>
    k (Env.p e 70 t70) w) := nr (by kernel_rfl)
theorem c8_35_v : opV V8 (.tmp 70) = true := by kernel_rfl
theorem c8_35_s (hw : Cur w) : W2 Try.prog 113 V8 c8_35 Q e w = (condP (ev e (.tmp 70)) (Q .normal e w) (Q (.exit 4) e w)) := by rw [(by kernel_rfl : c8_35 = .cond (.tmp 70) Code.skip (Code.exit 4)), W2_cond, c8_35_v, cond_true]; simp only [W2_ret, W2_skip, W2_exit, W2_label]
theorem c8_34_s (hw : Cur w) : W2 Try.prog 113 V8 c8_34 Q e w = (opsW (nx Try.prog) mv gdP 113 V8 o8_17 (fun e w => W2 Try.prog 113 V8 c8_35 Q e w) o8_17.toList [] e e w) := by rw [(by kernel_rfl : c8_34 = .seq (.region 17 o8_17 false) c8_35), W2_seq_reg]
theorem c8_12_s (hw : Cur w) : W2 Try.prog 113 V8 c8_12 Q e w = (W2 Try.prog 113 V8 c8_34 (seqQ (fun e w => W2 Try.prog 113 V8 c8_13 Q e w) Q) e w) := by rw [(by kernel_rfl : c8_12 = .seq c8_34 c8_13), W2_seq]
theorem c8_11_s (hw : Cur w) : W2 Try.prog 113 V8 c8_11 Q e w = (LoopP (fun e w k => W2 Try.prog 113 V8 c8_12 (seqQ k Q) e w) e w) := by rw [(by kernel_rfl : c8_11 = .loop c8_12), W2_loop]
theorem c8_10_s (hw : Cur w) : W2 Try.prog 113 V8 c8_10 Q e w = (W2 Try.prog 113 V8 c8_11 (blockQ 4 Q) e w) := by rw [(by kernel_rfl : c8_10 = .block 4 c8_11), W2_block]
theorem c8_9_s (hw : Cur w) : W2 Try.prog 113 V8 c8_9 Q e w = (opsW (nx Try.prog) mv gdP 113 V8 o8_16 (fun e w => W2 Try.prog 113 V8 c8_10 Q e w) o8_16.toList [] e e w) := by rw [(by kernel_rfl : c8_9 = .seq (.region 16 o8_16 false) c8_10), W2_seq_reg]
theorem c8_7_s (hw : Cur w) : W2 Try.prog 113 V8 c8_7 Q e w = (W2 Try.prog 113 V8 c8_9 (seqQ (fun e w => W2 Try.prog 113 V8 c8_8 Q e w) Q) e w) := by rw [(by kernel_rfl : c8_7 = .seq c8_9 c8_8), W2_seq]
theorem c8_6_s (hw : Cur w) : W2 Try.prog 113 V8 c8_6 Q e w = (opsW (nx Try.prog) mv gdP 113 V8 o8_15 (fun e w => W2 Try.prog 113 V8 c8_7 Q e w) o8_15.toList [] e e w) := by rw [(by kernel_rfl : c8_6 = .seq (.region 15 o8_15 false) c8_7), W2_seq_reg]
theorem c8_5_s (hw : Cur w) : W2 Try.prog 113 V8 c8_5 Q e w = (opsW (nx Try.prog) mv gdP 113 V8 o8_14 (fun e w => W2 Try.prog 113 V8 c8_6 Q e w) o8_14.toList [] e e w) := by rw [(by kernel_rfl : c8_5 = .seq (.region 14 o8_14 false) c8_6), W2_seq_reg]
theorem o8_8_eq : opsW N M G 113 V8 o8_8 k o8_8.toList [] e e w =
    (M (Value.int IntKind.i64 0) fun t7 =>
    k (Env.p e 7 t7) w) := nr (by kernel_rfl)
theorem o8_10_eq : opsW N M G 113 V8 o8_10 k o8_10.toList [] e e w =
    (M (e 7) fun t38 =>
    N (xv (xbin BinOp.add 3 (Operand.tmp 38) (Operand.const (Value.int IntKind.i64 1)) t38 (Value.int IntKind.i64 1))) w fun t39 w =>
    M t39 fun t7 =>
    k (Env.p e 7 t7) w) := nr (by kernel_rfl)
theorem c8_41_s (hw : Cur w) : W2 Try.prog 113 V8 c8_41 Q e w = (opsW (nx Try.prog) mv gdP 113 V8 o8_10 (fun e w => Q .normal e w) o8_10.toList [] e e w) := by rw [(by kernel_rfl : c8_41 = (.region 10 o8_10 false)), W2_reg]
theorem o8_11_eq : opsW N M G 113 V8 o8_11 k o8_11.toList [] e e w =
    (M (e 1) fun t40 =>
    M (e 7) fun t41 =>
    N (xv (Instr.indexAt 75 t40 t41)) w fun t42 w =>
    N (xv (Instr.loadAt 5 t42)) w fun t43 w =>
    N (xv (convert 5 3 t43)) w fun t44 w =>
    M (e 5) fun t45 =>
    N (builtin Builtin.len #[71] 3 ([false]).toArray ([t45]).toArray) w fun t46 w =>
    N (xv (xbin BinOp.rem 3 (Operand.tmp 44) (Operand.tmp 46) t44 t46)) w fun t47 w =>
    M t47 fun t8 =>
    k (Env.p e 8 t8) w) := nr (by kernel_rfl)
theorem o8_12_eq : opsW N M G 113 V8 o8_12 k o8_12.toList [] e e w =
    (M (e 7) fun t48 =>
    M (e 5) fun t49 =>
    N (builtin Builtin.len #[71] 3 ([false]).toArray ([t49]).toArray) w fun t50 w =>
    N (xv (xbin BinOp.rem 3 (Operand.tmp 48) (Operand.tmp 50) t48 t50)) w fun t51 w =>
    M t51 fun t9 =>
    k (Env.p e 9 t9) w) := nr (by kernel_rfl)
theorem o8_13_eq : drawGo2 N T2 M G H 113 V8 o8_13 S2 k o8_13.size [] (Array.replicate o8_13.size false) [] e e w =
    (S2 0 w ∧ (M (e 5) fun t52 =>
    S2 1 w ∧ (M (e 8) fun t53 =>
    S2 2 w ∧ (M (e 5) fun t54 =>
    S2 3 w ∧ (M (e 9) fun t55 =>
    S2 4 w ∧ (M (e 5) fun t56 =>
    S2 5 w ∧ (M (e 9) fun t57 =>
    S2 6 w ∧ (T2 6 (xv (Instr.indexAt 71 t56 t57)) fun t58 =>
    S2 7 w ∧ (T2 7 (xv (Instr.loadAt 2 t58)) fun t59 =>
    S2 8 w ∧ (M (e 5) fun t60 =>
    S2 9 w ∧ (M (e 8) fun t61 =>
    S2 10 w ∧ (T2 10 (xv (Instr.indexAt 71 t60 t61)) fun t62 =>
    S2 11 w ∧ (T2 11 (xv (Instr.loadAt 2 t62)) fun t63 =>
    S2 12 w ∧ (T2 12 (xv (Instr.indexAt 71 t52 t53)) fun t64 =>
    N (xu (Instr.storeAt 2 t64 t59)) w fun _ w =>
    S2 10 w ∧ (S2 9 w ∧ (S2 8 w ∧ (S2 3 w ∧ (S2 2 w ∧ (S2 14 w ∧ (T2 14 (xv (Instr.indexAt 71 t54 t55)) fun t65 =>
    N (xu (Instr.storeAt 2 t65 t63)) w fun _ w =>
    k e w)))))))))))))))))))) := nr (by kernel_rfl)
theorem c8_45_s (hw : Cur w) : W2 Try.prog 113 V8 c8_45 Q e w = (∃ S : Nat → World → Prop, drawGo2 (nx Try.prog) (fun i => takeP Try.prog (S i)) mv gdP gdT 113 V8 o8_13 S (fun e w => Q .normal e w) o8_13.size [] (Array.replicate o8_13.size false) [] e e w.drew) := by rw [(by kernel_rfl : c8_45 = (.region 13 o8_13 true)), W2_regD']
theorem c8_44_s (hw : Cur w) : W2 Try.prog 113 V8 c8_44 Q e w = (opsW (nx Try.prog) mv gdP 113 V8 o8_12 (fun e w => W2 Try.prog 113 V8 c8_45 Q e w) o8_12.toList [] e e w) := by rw [(by kernel_rfl : c8_44 = .seq (.region 12 o8_12 false) c8_45), W2_seq_reg]
theorem c8_43_s (hw : Cur w) : W2 Try.prog 113 V8 c8_43 Q e w = (opsW (nx Try.prog) mv gdP 113 V8 o8_11 (fun e w => W2 Try.prog 113 V8 c8_44 Q e w) o8_11.toList [] e e w) := by rw [(by kernel_rfl : c8_43 = .seq (.region 11 o8_11 false) c8_44), W2_seq_reg]
theorem c8_42_s (hw : Cur w) : W2 Try.prog 113 V8 c8_42 Q e w = (W2 Try.prog 113 V8 c8_43 (blockQ 3 Q) e w) := by rw [(by kernel_rfl : c8_42 = .block 3 c8_43), W2_block]
theorem c8_40_s (hw : Cur w) : W2 Try.prog 113 V8 c8_40 Q e w = (W2 Try.prog 113 V8 c8_42 (seqQ (fun e w => W2 Try.prog 113 V8 c8_41 Q e w) Q) e w) := by rw [(by kernel_rfl : c8_40 = .seq c8_42 c8_41), W2_seq]
theorem o8_9_eq : opsW N M G 113 V8 o8_9 k o8_9.toList [] e e w =
    (M (e 7) fun t29 =>
    M (e 1) fun t30 =>
    N (builtin Builtin.len #[75] 3 ([false]).toArray ([t30]).toArray) w fun t31 w =>
    N (xv (xbin BinOp.lss 3 (Operand.tmp 29) (Operand.tmp 31) t29 t31)) w fun t32 w =>
    M t32 fun t33 =>
    G (isB t33 true) (fun K => M (e 5) fun v => K v w) (fun t34 w =>
    G (isB t33 true) (fun K => N (builtin Builtin.len #[71] 3 ([false]).toArray ([t34]).toArray) w K) (fun t35 w =>
    G (isB t33 true) (fun K => N (xv (xbin BinOp.gtr 3 (Operand.tmp 35) (Operand.const (Value.int IntKind.i64 0)) t35 (Value.int IntKind.i64 0))) w K) (fun t36 w =>
    N (xpick t33 t36 (Value.bool false)) w fun t37 w =>
    k (Env.p e 37 t37) w) w) w) w) := nr (by kernel_rfl)
theorem c8_47_v : opV V8 (.tmp 37) = true := by kernel_rfl
theorem c8_47_s (hw : Cur w) : W2 Try.prog 113 V8 c8_47 Q e w = (condP (ev e (.tmp 37)) (Q .normal e w) (Q (.exit 2) e w)) := by rw [(by kernel_rfl : c8_47 = .cond (.tmp 37) Code.skip (Code.exit 2)), W2_cond, c8_47_v, cond_true]; simp only [W2_ret, W2_skip, W2_exit, W2_label]
theorem c8_46_s (hw : Cur w) : W2 Try.prog 113 V8 c8_46 Q e w = (opsW (nx Try.prog) mv gdP 113 V8 o8_9 (fun e w => W2 Try.prog 113 V8 c8_47 Q e w) o8_9.toList [] e e w) := by rw [(by kernel_rfl : c8_46 = .seq (.region 9 o8_9 false) c8_47), W2_seq_reg]
theorem c8_39_s (hw : Cur w) : W2 Try.prog 113 V8 c8_39 Q e w = (W2 Try.prog 113 V8 c8_46 (seqQ (fun e w => W2 Try.prog 113 V8 c8_40 Q e w) Q) e w) := by rw [(by kernel_rfl : c8_39 = .seq c8_46 c8_40), W2_seq]
theorem c8_38_s (hw : Cur w) : W2 Try.prog 113 V8 c8_38 Q e w = (LoopP (fun e w k => W2 Try.prog 113 V8 c8_39 (seqQ k Q) e w) e w) := by rw [(by kernel_rfl : c8_38 = .loop c8_39), W2_loop]
theorem c8_37_s (hw : Cur w) : W2 Try.prog 113 V8 c8_37 Q e w = (W2 Try.prog 113 V8 c8_38 (blockQ 2 Q) e w) := by rw [(by kernel_rfl : c8_37 = .block 2 c8_38), W2_block]
theorem c8_36_s (hw : Cur w) : W2 Try.prog 113 V8 c8_36 Q e w = (opsW (nx Try.prog) mv gdP 113 V8 o8_8 (fun e w => W2 Try.prog 113 V8 c8_37 Q e w) o8_8.toList [] e e w) := by rw [(by kernel_rfl : c8_36 = .seq (.region 8 o8_8 false) c8_37), W2_seq_reg]
theorem c8_4_s (hw : Cur w) : W2 Try.prog 113 V8 c8_4 Q e w = (W2 Try.prog 113 V8 c8_36 (seqQ (fun e w => W2 Try.prog 113 V8 c8_5 Q e w) Q) e w) := by rw [(by kernel_rfl : c8_4 = .seq c8_36 c8_5), W2_seq]
theorem o8_4_eq : opsW N M G 113 V8 o8_4 k o8_4.toList [] e e w =
    (M (Value.int IntKind.i64 0) fun t6 =>
    k (Env.p e 6 t6) w) := nr (by kernel_rfl)
theorem o8_6_eq : opsW N M G 113 V8 o8_6 k o8_6.toList [] e e w =
    (M (e 6) fun t22 =>
    N (xv (xbin BinOp.add 3 (Operand.tmp 22) (Operand.const (Value.int IntKind.i64 1)) t22 (Value.int IntKind.i64 1))) w fun t23 w =>
    M t23 fun t6 =>
    k (Env.p e 6 t6) w) := nr (by kernel_rfl)
theorem c8_53_s (hw : Cur w) : W2 Try.prog 113 V8 c8_53 Q e w = (opsW (nx Try.prog) mv gdP 113 V8 o8_6 (fun e w => Q .normal e w) o8_6.toList [] e e w) := by rw [(by kernel_rfl : c8_53 = (.region 6 o8_6 false)), W2_reg]
theorem o8_7_eq : opsW N M G 113 V8 o8_7 k o8_7.toList [] e e w =
    (M (e 5) fun t24 =>
    M (e 6) fun t25 =>
    N (xv (xbin BinOp.add 2 (Operand.tmp 25) (Operand.const (Value.int IntKind.i64 1)) t25 (Value.int IntKind.i64 1))) w fun t26 w =>
    N (xv (Instr.buildSlice 71 1 ([(0, t26)]).toArray)) w fun t27 w =>
    N (builtin Builtin.append #[71, 71] 71 ([false, false]).toArray ([t24, t27]).toArray) w fun t28 w =>
    M t28 fun t5 =>
    k (Env.p e 5 t5) w) := nr (by kernel_rfl)
theorem c8_55_s (hw : Cur w) : W2 Try.prog 113 V8 c8_55 Q e w = (opsW (nx Try.prog) mv gdP 113 V8 o8_7 (fun e w => Q .normal e w) o8_7.toList [] e e w) := by rw [(by kernel_rfl : c8_55 = (.region 7 o8_7 false)), W2_reg]
theorem c8_54_s (hw : Cur w) : W2 Try.prog 113 V8 c8_54 Q e w = (W2 Try.prog 113 V8 c8_55 (blockQ 1 Q) e w) := by rw [(by kernel_rfl : c8_54 = .block 1 c8_55), W2_block]
theorem c8_52_s (hw : Cur w) : W2 Try.prog 113 V8 c8_52 Q e w = (W2 Try.prog 113 V8 c8_54 (seqQ (fun e w => W2 Try.prog 113 V8 c8_53 Q e w) Q) e w) := by rw [(by kernel_rfl : c8_52 = .seq c8_54 c8_53), W2_seq]
theorem o8_5_eq : opsW N M G 113 V8 o8_5 k o8_5.toList [] e e w =
    (M (e 6) fun t18 =>
    M (e 0) fun t19 =>
    N (xv (convert 5 3 t19)) w fun t20 w =>
    N (xv (xbin BinOp.lss 3 (Operand.tmp 18) (Operand.tmp 20) t18 t20)) w fun t21 w =>
    k (Env.p e 21 t21) w) := nr (by kernel_rfl)
theorem c8_57_v : opV V8 (.tmp 21) = true := by kernel_rfl
theorem c8_57_s (hw : Cur w) : W2 Try.prog 113 V8 c8_57 Q e w = (condP (ev e (.tmp 21)) (Q .normal e w) (Q (.exit 0) e w)) := by rw [(by kernel_rfl : c8_57 = .cond (.tmp 21) Code.skip (Code.exit 0)), W2_cond, c8_57_v, cond_true]; simp only [W2_ret, W2_skip, W2_exit, W2_label]
theorem c8_56_s (hw : Cur w) : W2 Try.prog 113 V8 c8_56 Q e w = (opsW (nx Try.prog) mv gdP 113 V8 o8_5 (fun e w => W2 Try.prog 113 V8 c8_57 Q e w) o8_5.toList [] e e w) := by rw [(by kernel_rfl : c8_56 = .seq (.region 5 o8_5 false) c8_57), W2_seq_reg]
theorem c8_51_s (hw : Cur w) : W2 Try.prog 113 V8 c8_51 Q e w = (W2 Try.prog 113 V8 c8_56 (seqQ (fun e w => W2 Try.prog 113 V8 c8_52 Q e w) Q) e w) := by rw [(by kernel_rfl : c8_51 = .seq c8_56 c8_52), W2_seq]
theorem c8_50_s (hw : Cur w) : W2 Try.prog 113 V8 c8_50 Q e w = (LoopP (fun e w k => W2 Try.prog 113 V8 c8_51 (seqQ k Q) e w) e w) := by rw [(by kernel_rfl : c8_50 = .loop c8_51), W2_loop]
theorem c8_49_s (hw : Cur w) : W2 Try.prog 113 V8 c8_49 Q e w = (W2 Try.prog 113 V8 c8_50 (blockQ 0 Q) e w) := by rw [(by kernel_rfl : c8_49 = .block 0 c8_50), W2_block]
theorem c8_48_s (hw : Cur w) : W2 Try.prog 113 V8 c8_48 Q e w = (opsW (nx Try.prog) mv gdP 113 V8 o8_4 (fun e w => W2 Try.prog 113 V8 c8_49 Q e w) o8_4.toList [] e e w) := by rw [(by kernel_rfl : c8_48 = .seq (.region 4 o8_4 false) c8_49), W2_seq_reg]
theorem c8_3_s (hw : Cur w) : W2 Try.prog 113 V8 c8_3 Q e w = (W2 Try.prog 113 V8 c8_48 (seqQ (fun e w => W2 Try.prog 113 V8 c8_4 Q e w) Q) e w) := by rw [(by kernel_rfl : c8_3 = .seq c8_48 c8_4), W2_seq]
theorem c8_2_s (hw : Cur w) : W2 Try.prog 113 V8 c8_2 Q e w = (opsW (nx Try.prog) mv gdP 113 V8 o8_3 (fun e w => W2 Try.prog 113 V8 c8_3 Q e w) o8_3.toList [] e e w) := by rw [(by kernel_rfl : c8_2 = .seq (.region 3 o8_3 false) c8_3), W2_seq_reg]
theorem o8_1_eq : opsW N M G 113 V8 o8_1 k o8_1.toList [] e e w =
    (N (xcall (Value.func (Fn.func 25) #[] #[]) []) w fun t16 w =>
    N (xv (Op.unary UnOp.not t16)) w fun t17 w =>
    k (Env.p e 17 t17) w) := nr (by kernel_rfl)
theorem o8_2_eq : opsW N M G 113 V8 o8_2 k o8_2.toList [] e e w =
    (M (Value.bool false) fun t4 =>
    k (Env.p e 4 t4) w) := nr (by kernel_rfl)
theorem c8_60_s (hw : Cur w) : W2 Try.prog 113 V8 c8_60 Q e w = (opsW (nx Try.prog) mv gdP 113 V8 o8_2 (fun e w => Q .ret e w) o8_2.toList [] e e w) := by rw [(by kernel_rfl : c8_60 = .seq (.region 2 o8_2 false) Code.ret), W2_seq_reg]; simp only [W2_ret, W2_skip, W2_exit, W2_label]
theorem c8_59_v : opV V8 (.tmp 17) = true := by kernel_rfl
theorem c8_59_s (hw : Cur w) : W2 Try.prog 113 V8 c8_59 Q e w = (condP (ev e (.tmp 17)) (W2 Try.prog 113 V8 c8_60 Q e w) (Q .normal e w)) := by rw [(by kernel_rfl : c8_59 = .cond (.tmp 17) c8_60 Code.skip), W2_cond, c8_59_v, cond_true]; simp only [W2_ret, W2_skip, W2_exit, W2_label]
theorem c8_58_s (hw : Cur w) : W2 Try.prog 113 V8 c8_58 Q e w = (opsW (nx Try.prog) mv gdP 113 V8 o8_1 (fun e w => W2 Try.prog 113 V8 c8_59 Q e w) o8_1.toList [] e e w) := by rw [(by kernel_rfl : c8_58 = .seq (.region 1 o8_1 false) c8_59), W2_seq_reg]
theorem c8_1_s (hw : Cur w) : W2 Try.prog 113 V8 c8_1 Q e w = (W2 Try.prog 113 V8 c8_58 (seqQ (fun e w => W2 Try.prog 113 V8 c8_2 Q e w) Q) e w) := by rw [(by kernel_rfl : c8_1 = .seq c8_58 c8_2), W2_seq]
theorem c8_s (hw : Cur w) : W2 Try.prog 113 V8 c8 Q e w = (opsW (nx Try.prog) mv gdP 113 V8 o8_0 (fun e w => W2 Try.prog 113 V8 c8_1 Q e w) o8_0.toList [] e e w) := by rw [(by kernel_rfl : c8 = .seq (.region 0 o8_0 false) c8_1), W2_seq_reg]
theorem call8 {a0 a1 : Value} {w : World} {R : Value → World → Prop} (h : W2 Try.prog 113 V8 c8 (retQ Try.prog [.tmp 4] R) (argE [a0, a1]) w) : CallsN Try.prog 8 [a0, a1] w R :=
  callsN_of_W2 (c := c8) (rs := [.tmp 4]) V8 Try.ntmps8 (by rw [Try.results8]) mixed Try.func8 (by kernel_rfl) (by kernel_rfl) (by kernel_rfl) (by kernel_rfl) (by simp) h
noncomputable def hk8 := And.intro (@o8_0_eq) <| And.intro (@o8_3_eq) <| And.intro (@o8_14_eq) <| And.intro (@o8_15_eq) <| And.intro (@o8_28_eq) <| And.intro (@c8_8_s) <| And.intro (@o8_16_eq) <| And.intro (@o8_18_eq) <| And.intro (@c8_14_s) <| And.intro (@o8_19_eq) <| And.intro (@o8_22_eq) <| And.intro (@o8_24_eq) <| And.intro (@c8_23_s) <| And.intro (@o8_25_eq) <| And.intro (@o8_26_eq) <| And.intro (@o8_27_eq) <| And.intro (@c8_28_s) <| And.intro (@c8_27_s) <| And.intro (@c8_26_s) <| And.intro (@c8_25_s) <| And.intro (@c8_24_s) <| And.intro (@c8_22_s) <| And.intro (@o8_23_eq) <| And.intro (@c8_30_s) <| And.intro (@c8_29_s) <| And.intro (@c8_21_s) <| And.intro (@c8_20_s) <| And.intro (@c8_19_s) <| And.intro (@c8_18_s) <| And.intro (@o8_20_eq) <| And.intro (@o8_21_eq) <| And.intro (@c8_33_s) <| And.intro (@c8_32_s) <| And.intro (@c8_31_s) <| And.intro (@c8_17_s) <| And.intro (@c8_16_s) <| And.intro (@c8_15_s) <| And.intro (@c8_13_s) <| And.intro (@o8_17_eq) <| And.intro (@c8_35_s) <| And.intro (@c8_34_s) <| And.intro (@c8_12_s) <| And.intro (@c8_11_s) <| And.intro (@c8_10_s) <| And.intro (@c8_9_s) <| And.intro (@c8_7_s) <| And.intro (@c8_6_s) <| And.intro (@c8_5_s) <| And.intro (@o8_8_eq) <| And.intro (@o8_10_eq) <| And.intro (@c8_41_s) <| And.intro (@o8_11_eq) <| And.intro (@o8_12_eq) <| And.intro (@o8_13_eq) <| And.intro (@c8_45_s) <| And.intro (@c8_44_s) <| And.intro (@c8_43_s) <| And.intro (@c8_42_s) <| And.intro (@c8_40_s) <| And.intro (@o8_9_eq) <| And.intro (@c8_47_s) <| And.intro (@c8_46_s) <| And.intro (@c8_39_s) <| And.intro (@c8_38_s) <| And.intro (@c8_37_s) <| And.intro (@c8_36_s) <| And.intro (@c8_4_s) <| And.intro (@o8_4_eq) <| And.intro (@o8_6_eq) <| And.intro (@c8_53_s) <| And.intro (@o8_7_eq) <| And.intro (@c8_55_s) <| And.intro (@c8_54_s) <| And.intro (@c8_52_s) <| And.intro (@o8_5_eq) <| And.intro (@c8_57_s) <| And.intro (@c8_56_s) <| And.intro (@c8_51_s) <| And.intro (@c8_50_s) <| And.intro (@c8_49_s) <| And.intro (@c8_48_s) <| And.intro (@c8_3_s) <| And.intro (@c8_2_s) <| And.intro (@o8_1_eq) <| And.intro (@o8_2_eq) <| And.intro (@c8_60_s) <| And.intro (@c8_59_s) <| And.intro (@c8_58_s) <| And.intro (@c8_1_s) <| @c8_s
-- K8: ↓hk8
end
end Go.Proofs.Ytenokheiindfkaa
