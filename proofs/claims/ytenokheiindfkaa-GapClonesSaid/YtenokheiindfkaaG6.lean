/- The equations of the code of some functions, written by the printer gen.py: each is checked by the kernel. -/
import Derived.Test.YtenokheiindfkaaQ0
import Derived.Test.YtenokheiindfkaaCB
set_option linter.unusedVariables false
set_option linter.unusedSimpArgs false
set_option maxRecDepth 100000
namespace Go.Proofs.Ytenokheiindfkaa
open Go.VW
noncomputable section
set_option linter.defProp false
variable {N : Sem Next → World → (Value → World → Prop) → Prop} {T : Sem Next → (Value → Prop) → Prop} {M : Value → (Value → Prop) → Prop} {G : Bool → ((Value → World → Prop) → Prop) → (Value → World → Prop) → World → Prop}
  {H : Bool → ((Value → Prop) → Prop) → (Value → Prop) → Prop} {S : World → Prop} {k : Env → World → Prop} {Q : Exit → Env → World → Prop} {e : Env} {w : World}
  {T2 : Nat → Sem Next → (Value → Prop) → Prop} {S2 : Nat → World → Prop}
/-! ### (*vouch/vouchref07.Gap) . Put -/
def V65 : Nat → Bool := fun i => [0, 1, 3, 4, 5, 6, 7, 8, 9, 28, 36, 46, 75, 100, 105].elem i
noncomputable def c65 : Code := (Try.f65.body.getD .skip)
noncomputable def o65_0 : Array Oper := rO (cL c65)
noncomputable def c65_1 : Code := (cR c65)
noncomputable def c65_2 : Code := (cR c65_1)
noncomputable def c65_3 : Code := (cR c65_2)
noncomputable def o65_9 : Array Oper := rO (cL c65_3)
noncomputable def c65_4 : Code := (cR c65_3)
noncomputable def o65_10 : Array Oper := rO (cL c65_4)
noncomputable def c65_5 : Code := (cR c65_4)
noncomputable def c65_6 : Code := (cL c65_5)
noncomputable def c65_7 : Code := (cL c65_6)
noncomputable def c65_8 : Code := (cL c65_7)
noncomputable def o65_11 : Array Oper := rO (cL c65_8)
noncomputable def c65_9 : Code := (cR c65_8)
noncomputable def c65_10 : Code := (cR c65_9)
noncomputable def o65_14 : Array Oper := rO (cL c65_10)
noncomputable def c65_11 : Code := (cR c65_10)
noncomputable def o65_15 : Array Oper := rO (cL c65_11)
noncomputable def c65_12 : Code := (cR c65_11)
noncomputable def o65_16 : Array Oper := rO (cL c65_12)
noncomputable def c65_13 : Code := (cR c65_12)
noncomputable def c65_14 : Code := (cR c65_13)
noncomputable def o65_22 : Array Oper := rO c65_14
noncomputable def c65_15 : Code := (cL c65_13)
noncomputable def o65_17 : Array Oper := rO (cL c65_15)
noncomputable def c65_16 : Code := (cR c65_15)
noncomputable def c65_17 : Code := (cL c65_16)
noncomputable def c65_18 : Code := (cL c65_17)
noncomputable def c65_19 : Code := (cR c65_18)
noncomputable def c65_20 : Code := (cR c65_19)
noncomputable def o65_19 : Array Oper := rO c65_20
noncomputable def c65_21 : Code := (cL c65_19)
noncomputable def c65_22 : Code := (cL c65_21)
noncomputable def o65_20 : Array Oper := rO (cL c65_22)
noncomputable def c65_23 : Code := (cR c65_22)
noncomputable def c65_24 : Code := (cL c65_23)
noncomputable def o65_21 : Array Oper := rO c65_24
noncomputable def c65_25 : Code := (cL c65_18)
noncomputable def o65_18 : Array Oper := rO (cL c65_25)
noncomputable def c65_26 : Code := (cR c65_25)
noncomputable def c65_27 : Code := (cL c65_9)
noncomputable def o65_12 : Array Oper := rO (cL c65_27)
noncomputable def c65_28 : Code := (cR c65_27)
noncomputable def c65_29 : Code := (cL c65_28)
noncomputable def o65_13 : Array Oper := rO (cL c65_29)
noncomputable def c65_30 : Code := (cL c65_2)
noncomputable def o65_3 : Array Oper := rO (cL c65_30)
noncomputable def c65_31 : Code := (cR c65_30)
noncomputable def c65_32 : Code := (cL c65_31)
noncomputable def c65_33 : Code := (cR c65_32)
noncomputable def o65_7 : Array Oper := rO (cL c65_33)
noncomputable def c65_34 : Code := (cR c65_33)
noncomputable def o65_8 : Array Oper := rO (cL c65_34)
noncomputable def c65_35 : Code := (cL c65_32)
noncomputable def o65_4 : Array Oper := rO (cL c65_35)
noncomputable def c65_36 : Code := (cR c65_35)
noncomputable def c65_37 : Code := (cL c65_36)
noncomputable def o65_5 : Array Oper := rO (cL c65_37)
noncomputable def c65_38 : Code := (cR c65_37)
noncomputable def o65_6 : Array Oper := rO (cL c65_38)
noncomputable def c65_39 : Code := (cL c65_1)
noncomputable def o65_1 : Array Oper := rO (cL c65_39)
noncomputable def c65_40 : Code := (cR c65_39)
noncomputable def c65_41 : Code := (cL c65_40)
noncomputable def o65_2 : Array Oper := rO (cL c65_41)
theorem o65_0_eq : opsW N M G 120 V65 o65_0 k o65_0.toList [] e e w =
    (N (xv (Instr.box 54 (e 1))) w fun t3 w =>
    M (Value.slice none 0 0) fun t4 =>
    M (Value.bool false) fun t5 =>
    k (Env.p (Env.p (Env.p e 3 t3) 4 t4) 5 t5) w) := nr (by kernel_rfl)
theorem o65_9_eq : opsW N M G 120 V65 o65_9 k o65_9.toList [] e e w =
    (N (xv (Instr.loadAt 54 (e 3))) w fun t60 w =>
    N (xv (Instr.buildSlice 60 1 ([(0, t60)]).toArray)) w fun t61 w =>
    M t61 fun t6 =>
    k (Env.p e 6 t6) w) := nr (by kernel_rfl)
theorem o65_10_eq : opsW N M G 120 V65 o65_10 k o65_10.toList [] e e w =
    (M (e 0) fun t62 =>
    N (xv (Instr.fieldAt 54 (e 3) 0)) w fun t63 w =>
    N (xv (Instr.loadAt 2 t63)) w fun t64 w =>
    N (xnil t62) w fun t65 w =>
    N (xv (Instr.fieldAt 62 t65 0)) w fun t66 w =>
    N (xu (Instr.storeAt 2 t66 t64)) w fun _ w =>
    k e w) := nr (by kernel_rfl)
theorem o65_11_eq : opsW N M G 120 V65 o65_11 k o65_11.toList [] e e w =
    (M (e 0) fun t67 =>
    M (e 0) fun t68 =>
    N (xnil t68) w fun t69 w =>
    N (xv (Instr.fieldAt 62 t69 0)) w fun t70 w =>
    N (xv (Instr.loadAt 2 t70)) w fun t71 w =>
    N (xv (xbin BinOp.add 2 (Operand.tmp 71) (Operand.const (Value.int IntKind.i64 1)) t71 (Value.int IntKind.i64 1))) w fun t72 w =>
    N (xcall (Value.func (Fn.func 87) #[] #[]) [t67, t72]) w fun t73 w =>
    M t73 fun t7 =>
    k (Env.p e 7 t7) w) := nr (by kernel_rfl)
theorem o65_14_eq : opsW N M G 120 V65 o65_14 k o65_14.toList [] e e w =
    (M (e 6) fun t77 =>
    M (e 0) fun t78 =>
    N (xnil t78) w fun t79 w =>
    N (xv (Instr.fieldAt 62 t79 2)) w fun t80 w =>
    N (xv (Instr.loadAt 60 t80)) w fun t81 w =>
    M (e 7) fun t82 =>
    N (xv (Instr.indexAt 60 t81 t82)) w fun t83 w =>
    N (xv (Instr.loadAt 54 t83)) w fun t84 w =>
    N (xv (Instr.buildSlice 60 1 ([(0, t84)]).toArray)) w fun t85 w =>
    N (builtin Builtin.append #[60, 60] 60 ([false, false]).toArray ([t77, t85]).toArray) w fun t86 w =>
    M t86 fun t6 =>
    k (Env.p e 6 t6) w) := nr (by kernel_rfl)
theorem o65_15_eq : opsW N M G 120 V65 o65_15 k o65_15.toList [] e e w =
    (M (e 0) fun t87 =>
    N (xnil t87) w fun t88 w =>
    N (xv (Instr.fieldAt 62 t88 0)) w fun t89 w =>
    N (xv (Instr.loadAt 2 t89)) w fun t90 w =>
    N (xv (xbin BinOp.add 2 (Operand.tmp 90) (Operand.const (Value.int IntKind.i64 1)) t90 (Value.int IntKind.i64 1))) w fun t91 w =>
    N (xnil t87) w fun t92 w =>
    N (xv (Instr.fieldAt 62 t92 0)) w fun t93 w =>
    N (xu (Instr.storeAt 2 t93 t91)) w fun _ w =>
    k e w) := nr (by kernel_rfl)
theorem o65_16_eq : opsW N M G 120 V65 o65_16 k o65_16.toList [] e e w =
    (M (Value.slice none 0 0) fun t8 =>
    k (Env.p e 8 t8) w) := nr (by kernel_rfl)
theorem o65_22_eq : opsW N M G 120 V65 o65_22 k o65_22.toList [] e e w =
    (M (e 0) fun t116 =>
    M (e 8) fun t117 =>
    N (xnil t116) w fun t118 w =>
    N (xv (Instr.fieldAt 62 t118 2)) w fun t119 w =>
    N (xu (Instr.storeAt 60 t119 t117)) w fun _ w =>
    k e w) := nr (by kernel_rfl)
theorem c65_14_s (hw : Cur w) : W2 Try.prog 120 V65 c65_14 Q e w = (opsW (nx Try.prog) mv gdP 120 V65 o65_22 (fun e w => Q .normal e w) o65_22.toList [] e e w) := by rw [(by kernel_rfl : c65_14 = (.region 22 o65_22 false)), W2_reg]
theorem o65_17_eq : opsW N M G 120 V65 o65_17 k o65_17.toList [] e e w =
    (M (Value.int IntKind.i64 0) fun t9 =>
    k (Env.p e 9 t9) w) := nr (by kernel_rfl)
theorem o65_19_eq : opsW N M G 120 V65 o65_19 k o65_19.toList [] e e w =
    (M (e 9) fun t101 =>
    N (xv (xbin BinOp.add 3 (Operand.tmp 101) (Operand.const (Value.int IntKind.i64 1)) t101 (Value.int IntKind.i64 1))) w fun t102 w =>
    M t102 fun t9 =>
    k (Env.p e 9 t9) w) := nr (by kernel_rfl)
theorem c65_20_s (hw : Cur w) : W2 Try.prog 120 V65 c65_20 Q e w = (opsW (nx Try.prog) mv gdP 120 V65 o65_19 (fun e w => Q .normal e w) o65_19.toList [] e e w) := by rw [(by kernel_rfl : c65_20 = (.region 19 o65_19 false)), W2_reg]
theorem o65_20_eq : opsW N M G 120 V65 o65_20 k o65_20.toList [] e e w =
    (M (e 9) fun t103 =>
    M (e 7) fun t104 =>
    N (xv (xbin BinOp.neq 3 (Operand.tmp 103) (Operand.tmp 104) t103 t104)) w fun t105 w =>
    k (Env.p e 105 t105) w) := nr (by kernel_rfl)
theorem o65_21_eq : opsW N M G 120 V65 o65_21 k o65_21.toList [] e e w =
    (M (e 8) fun t106 =>
    M (e 0) fun t107 =>
    N (xnil t107) w fun t108 w =>
    N (xv (Instr.fieldAt 62 t108 2)) w fun t109 w =>
    N (xv (Instr.loadAt 60 t109)) w fun t110 w =>
    M (e 9) fun t111 =>
    N (xv (Instr.indexAt 60 t110 t111)) w fun t112 w =>
    N (xv (Instr.loadAt 54 t112)) w fun t113 w =>
    N (xv (Instr.buildSlice 60 1 ([(0, t113)]).toArray)) w fun t114 w =>
    N (builtin Builtin.append #[60, 60] 60 ([false, false]).toArray ([t106, t114]).toArray) w fun t115 w =>
    M t115 fun t8 =>
    k (Env.p e 8 t8) w) := nr (by kernel_rfl)
theorem c65_24_s (hw : Cur w) : W2 Try.prog 120 V65 c65_24 Q e w = (opsW (nx Try.prog) mv gdP 120 V65 o65_21 (fun e w => Q .normal e w) o65_21.toList [] e e w) := by rw [(by kernel_rfl : c65_24 = (.region 21 o65_21 false)), W2_reg]
theorem c65_23_v : opV V65 (.tmp 105) = true := by kernel_rfl
theorem c65_23_s (hw : Cur w) : W2 Try.prog 120 V65 c65_23 Q e w = (condP (ev e (.tmp 105)) (W2 Try.prog 120 V65 c65_24 Q e w) (Q .normal e w)) := by rw [(by kernel_rfl : c65_23 = .cond (.tmp 105) c65_24 Code.skip), W2_cond, c65_23_v, cond_true]; simp only [W2_ret, W2_skip, W2_exit, W2_label]
theorem c65_22_s (hw : Cur w) : W2 Try.prog 120 V65 c65_22 Q e w = (opsW (nx Try.prog) mv gdP 120 V65 o65_20 (fun e w => W2 Try.prog 120 V65 c65_23 Q e w) o65_20.toList [] e e w) := by rw [(by kernel_rfl : c65_22 = .seq (.region 20 o65_20 false) c65_23), W2_seq_reg]
theorem c65_21_s (hw : Cur w) : W2 Try.prog 120 V65 c65_21 Q e w = (W2 Try.prog 120 V65 c65_22 (blockQ 3 Q) e w) := by rw [(by kernel_rfl : c65_21 = .block 3 c65_22), W2_block]
theorem c65_19_s (hw : Cur w) : W2 Try.prog 120 V65 c65_19 Q e w = (W2 Try.prog 120 V65 c65_21 (seqQ (fun e w => W2 Try.prog 120 V65 c65_20 Q e w) Q) e w) := by rw [(by kernel_rfl : c65_19 = .seq c65_21 c65_20), W2_seq]
theorem o65_18_eq : opsW N M G 120 V65 o65_18 k o65_18.toList [] e e w =
    (M (e 9) fun t94 =>
    M (e 0) fun t95 =>
    N (xnil t95) w fun t96 w =>
    N (xv (Instr.fieldAt 62 t96 2)) w fun t97 w =>
    N (xv (Instr.loadAt 60 t97)) w fun t98 w =>
    N (builtin Builtin.len #[60] 3 ([false]).toArray ([t98]).toArray) w fun t99 w =>
    N (xv (xbin BinOp.lss 3 (Operand.tmp 94) (Operand.tmp 99) t94 t99)) w fun t100 w =>
    k (Env.p e 100 t100) w) := nr (by kernel_rfl)
theorem c65_26_v : opV V65 (.tmp 100) = true := by kernel_rfl
theorem c65_26_s (hw : Cur w) : W2 Try.prog 120 V65 c65_26 Q e w = (condP (ev e (.tmp 100)) (Q .normal e w) (Q (.exit 2) e w)) := by rw [(by kernel_rfl : c65_26 = .cond (.tmp 100) Code.skip (Code.exit 2)), W2_cond, c65_26_v, cond_true]; simp only [W2_ret, W2_skip, W2_exit, W2_label]
theorem c65_25_s (hw : Cur w) : W2 Try.prog 120 V65 c65_25 Q e w = (opsW (nx Try.prog) mv gdP 120 V65 o65_18 (fun e w => W2 Try.prog 120 V65 c65_26 Q e w) o65_18.toList [] e e w) := by rw [(by kernel_rfl : c65_25 = .seq (.region 18 o65_18 false) c65_26), W2_seq_reg]
theorem c65_18_s (hw : Cur w) : W2 Try.prog 120 V65 c65_18 Q e w = (W2 Try.prog 120 V65 c65_25 (seqQ (fun e w => W2 Try.prog 120 V65 c65_19 Q e w) Q) e w) := by rw [(by kernel_rfl : c65_18 = .seq c65_25 c65_19), W2_seq]
theorem c65_17_s (hw : Cur w) : W2 Try.prog 120 V65 c65_17 Q e w = (LoopP (fun e w k => W2 Try.prog 120 V65 c65_18 (seqQ k Q) e w) e w) := by rw [(by kernel_rfl : c65_17 = .loop c65_18), W2_loop]
theorem c65_16_s (hw : Cur w) : W2 Try.prog 120 V65 c65_16 Q e w = (W2 Try.prog 120 V65 c65_17 (blockQ 2 Q) e w) := by rw [(by kernel_rfl : c65_16 = .block 2 c65_17), W2_block]
theorem c65_15_s (hw : Cur w) : W2 Try.prog 120 V65 c65_15 Q e w = (opsW (nx Try.prog) mv gdP 120 V65 o65_17 (fun e w => W2 Try.prog 120 V65 c65_16 Q e w) o65_17.toList [] e e w) := by rw [(by kernel_rfl : c65_15 = .seq (.region 17 o65_17 false) c65_16), W2_seq_reg]
theorem c65_13_s (hw : Cur w) : W2 Try.prog 120 V65 c65_13 Q e w = (W2 Try.prog 120 V65 c65_15 (seqQ (fun e w => W2 Try.prog 120 V65 c65_14 Q e w) Q) e w) := by rw [(by kernel_rfl : c65_13 = .seq c65_15 c65_14), W2_seq]
theorem c65_12_s (hw : Cur w) : W2 Try.prog 120 V65 c65_12 Q e w = (opsW (nx Try.prog) mv gdP 120 V65 o65_16 (fun e w => W2 Try.prog 120 V65 c65_13 Q e w) o65_16.toList [] e e w) := by rw [(by kernel_rfl : c65_12 = .seq (.region 16 o65_16 false) c65_13), W2_seq_reg]
theorem c65_11_s (hw : Cur w) : W2 Try.prog 120 V65 c65_11 Q e w = (opsW (nx Try.prog) mv gdP 120 V65 o65_15 (fun e w => W2 Try.prog 120 V65 c65_12 Q e w) o65_15.toList [] e e w) := by rw [(by kernel_rfl : c65_11 = .seq (.region 15 o65_15 false) c65_12), W2_seq_reg]
theorem c65_10_s (hw : Cur w) : W2 Try.prog 120 V65 c65_10 Q e w = (opsW (nx Try.prog) mv gdP 120 V65 o65_14 (fun e w => W2 Try.prog 120 V65 c65_11 Q e w) o65_14.toList [] e e w) := by rw [(by kernel_rfl : c65_10 = .seq (.region 14 o65_14 false) c65_11), W2_seq_reg]
theorem o65_12_eq : opsW N M G 120 V65 o65_12 k o65_12.toList [] e e w =
    (M (e 7) fun t74 =>
    N (xv (xbin BinOp.lss 3 (Operand.tmp 74) (Operand.const (Value.int IntKind.i64 0)) t74 (Value.int IntKind.i64 0))) w fun t75 w =>
    k (Env.p e 75 t75) w) := nr (by kernel_rfl)
theorem o65_13_eq : opsW N M G 120 V65 o65_13 k o65_13.toList [] e e w =
    (M (e 6) fun t76 =>
    M t76 fun t4 =>
    M (Value.bool false) fun t5 =>
    k (Env.p (Env.p e 4 t4) 5 t5) w) := nr (by kernel_rfl)
theorem c65_29_s (hw : Cur w) : W2 Try.prog 120 V65 c65_29 Q e w = (opsW (nx Try.prog) mv gdP 120 V65 o65_13 (fun e w => Q .ret e w) o65_13.toList [] e e w) := by rw [(by kernel_rfl : c65_29 = .seq (.region 13 o65_13 false) Code.ret), W2_seq_reg]; simp only [W2_ret, W2_skip, W2_exit, W2_label]
theorem c65_28_v : opV V65 (.tmp 75) = true := by kernel_rfl
theorem c65_28_s (hw : Cur w) : W2 Try.prog 120 V65 c65_28 Q e w = (condP (ev e (.tmp 75)) (W2 Try.prog 120 V65 c65_29 Q e w) (Q .normal e w)) := by rw [(by kernel_rfl : c65_28 = .cond (.tmp 75) c65_29 Code.skip), W2_cond, c65_28_v, cond_true]; simp only [W2_ret, W2_skip, W2_exit, W2_label]
theorem c65_27_s (hw : Cur w) : W2 Try.prog 120 V65 c65_27 Q e w = (opsW (nx Try.prog) mv gdP 120 V65 o65_12 (fun e w => W2 Try.prog 120 V65 c65_28 Q e w) o65_12.toList [] e e w) := by rw [(by kernel_rfl : c65_27 = .seq (.region 12 o65_12 false) c65_28), W2_seq_reg]
theorem c65_9_s (hw : Cur w) : W2 Try.prog 120 V65 c65_9 Q e w = (W2 Try.prog 120 V65 c65_27 (seqQ (fun e w => W2 Try.prog 120 V65 c65_10 Q e w) Q) e w) := by rw [(by kernel_rfl : c65_9 = .seq c65_27 c65_10), W2_seq]
theorem c65_8_s (hw : Cur w) : W2 Try.prog 120 V65 c65_8 Q e w = (opsW (nx Try.prog) mv gdP 120 V65 o65_11 (fun e w => W2 Try.prog 120 V65 c65_9 Q e w) o65_11.toList [] e e w) := by rw [(by kernel_rfl : c65_8 = .seq (.region 11 o65_11 false) c65_9), W2_seq_reg]
theorem c65_7_s (hw : Cur w) : W2 Try.prog 120 V65 c65_7 Q e w = (W2 Try.prog 120 V65 c65_8 (blockQ 1 Q) e w) := by rw [(by kernel_rfl : c65_7 = .block 1 c65_8), W2_block]
theorem c65_6_s (hw : Cur w) : W2 Try.prog 120 V65 c65_6 Q e w = (LoopP (fun e w k => W2 Try.prog 120 V65 c65_7 (seqQ k Q) e w) e w) := by rw [(by kernel_rfl : c65_6 = .loop c65_7), W2_loop]
theorem c65_5_s (hw : Cur w) : W2 Try.prog 120 V65 c65_5 Q e w = (W2 Try.prog 120 V65 c65_6 (blockQ 0 Q) e w) := by rw [(by kernel_rfl : c65_5 = .block 0 c65_6), W2_block]
theorem c65_4_s (hw : Cur w) : W2 Try.prog 120 V65 c65_4 Q e w = (opsW (nx Try.prog) mv gdP 120 V65 o65_10 (fun e w => W2 Try.prog 120 V65 c65_5 Q e w) o65_10.toList [] e e w) := by rw [(by kernel_rfl : c65_4 = .seq (.region 10 o65_10 false) c65_5), W2_seq_reg]
theorem c65_3_s (hw : Cur w) : W2 Try.prog 120 V65 c65_3 Q e w = (opsW (nx Try.prog) mv gdP 120 V65 o65_9 (fun e w => W2 Try.prog 120 V65 c65_4 Q e w) o65_9.toList [] e e w) := by rw [(by kernel_rfl : c65_3 = .seq (.region 9 o65_9 false) c65_4), W2_seq_reg]
theorem o65_3_eq : drawGo2 N T2 M G H 120 V65 o65_3 S2 k o65_3.size [] (Array.replicate o65_3.size false) [] e e w =
    (S2 0 w ∧ (T2 0 (xv (Instr.fieldAt 54 (e 3) 0)) fun t29 =>
    S2 1 w ∧ (T2 1 (xv (Instr.loadAt 2 t29)) fun t30 =>
    S2 2 w ∧ (M (e 0) fun t31 =>
    S2 3 w ∧ (T2 3 (xnil t31) fun t32 =>
    S2 4 w ∧ (T2 4 (xv (Instr.fieldAt 62 t32 0)) fun t33 =>
    S2 5 w ∧ (T2 5 (xv (Instr.loadAt 2 t33)) fun t34 =>
    S2 6 w ∧ (T2 6 (xv (xbin BinOp.add 2 (Operand.tmp 34) (Operand.const (Value.int IntKind.i64 1)) t34 (Value.int IntKind.i64 1))) fun t35 =>
    S2 7 w ∧ (T2 7 (xv (xbin BinOp.gtr 2 (Operand.tmp 30) (Operand.tmp 35) t30 t35)) fun t36 =>
    k (Env.p e 36 t36) w))))))))) := nr (by kernel_rfl)
theorem o65_7_eq : drawGo2 N T2 M G H 120 V65 o65_7 S2 k o65_7.size [] (Array.replicate o65_7.size false) [] e e w =
    (S2 0 w ∧ (M (e 0) fun t50 =>
    S2 1 w ∧ (M (e 0) fun t51 =>
    S2 2 w ∧ (T2 2 (xnil t51) fun t52 =>
    S2 3 w ∧ (T2 3 (xv (Instr.fieldAt 62 t52 2)) fun t53 =>
    S2 4 w ∧ (T2 4 (xv (Instr.loadAt 60 t53)) fun t54 =>
    S2 5 w ∧ (T2 5 (xv (Instr.loadAt 54 (e 3))) fun t55 =>
    N (xv (Instr.buildSlice 60 1 ([(0, t55)]).toArray)) w fun t56 w =>
    S2 4 w ∧ (S2 3 w ∧ (S2 2 w ∧ (S2 1 w ∧ (S2 0 w ∧ (N (builtin Builtin.append #[60, 60] 60 ([false, false]).toArray ([t54, t56]).toArray) w fun t57 w =>
    S2 3 w ∧ (S2 2 w ∧ (S2 1 w ∧ (S2 0 w ∧ (S2 8 w ∧ (T2 8 (xnil t50) fun t58 =>
    S2 9 w ∧ (T2 9 (xv (Instr.fieldAt 62 t58 2)) fun t59 =>
    N (xu (Instr.storeAt 60 t59 t57)) w fun _ w =>
    S2 8 w ∧ (k e w))))))))))))))))))) := nr (by kernel_rfl)
theorem o65_8_eq : opsW N M G 120 V65 o65_8 k o65_8.toList [] e e w =
    (M (Value.slice none 0 0) fun t4 =>
    M (Value.bool false) fun t5 =>
    k (Env.p (Env.p e 4 t4) 5 t5) w) := nr (by kernel_rfl)
theorem c65_34_s (hw : Cur w) : W2 Try.prog 120 V65 c65_34 Q e w = (opsW (nx Try.prog) mv gdP 120 V65 o65_8 (fun e w => Q .ret e w) o65_8.toList [] e e w) := by rw [(by kernel_rfl : c65_34 = .seq (.region 8 o65_8 false) Code.ret), W2_seq_reg]; simp only [W2_ret, W2_skip, W2_exit, W2_label]
theorem c65_33_s (hw : Cur w) : W2 Try.prog 120 V65 c65_33 Q e w = (∃ S : Nat → World → Prop, drawGo2 (nx Try.prog) (fun i => takeP Try.prog (S i)) mv gdP gdT 120 V65 o65_7 S (fun e w => W2 Try.prog 120 V65 c65_34 Q e w) o65_7.size [] (Array.replicate o65_7.size false) [] e e w.drew) := by rw [(by kernel_rfl : c65_33 = .seq (.region 7 o65_7 true) c65_34), W2_seq_regD]
theorem o65_4_eq : drawGo2 N T2 M G H 120 V65 o65_4 S2 k o65_4.size [] (Array.replicate o65_4.size false) [] e e w =
    (S2 0 w ∧ (M (e 0) fun t37 =>
    S2 1 w ∧ (T2 1 (xnil t37) fun t38 =>
    S2 2 w ∧ (T2 2 (xv (Instr.fieldAt 62 t38 2)) fun t39 =>
    S2 3 w ∧ (T2 3 (xv (Instr.loadAt 60 t39)) fun t40 =>
    S2 4 w ∧ (T2 4 (builtin Builtin.len #[60] 3 ([false]).toArray ([t40]).toArray) fun t41 =>
    S2 5 w ∧ (M (e 0) fun t42 =>
    S2 6 w ∧ (T2 6 (xnil t42) fun t43 =>
    S2 7 w ∧ (T2 7 (xv (Instr.fieldAt 62 t43 1)) fun t44 =>
    S2 8 w ∧ (T2 8 (xv (Instr.loadAt 3 t44)) fun t45 =>
    S2 9 w ∧ (T2 9 (xv (xbin BinOp.eql 3 (Operand.tmp 41) (Operand.tmp 45) t41 t45)) fun t46 =>
    k (Env.p e 46 t46) w))))))))))) := nr (by kernel_rfl)
theorem o65_5_eq : opsW N M G 120 V65 o65_5 k o65_5.toList [] e e w =
    (M (e 0) fun t47 =>
    N (xnil t47) w fun t48 w =>
    N (xv (Instr.fieldAt 62 t48 2)) w fun t49 w =>
    N (xu (Instr.storeAt 60 t49 (Value.slice none 0 0))) w fun _ w =>
    k e w) := nr (by kernel_rfl)
theorem o65_6_eq : opsW N M G 120 V65 o65_6 k o65_6.toList [] e e w =
    (M (Value.slice none 0 0) fun t4 =>
    M (Value.bool true) fun t5 =>
    k (Env.p (Env.p e 4 t4) 5 t5) w) := nr (by kernel_rfl)
theorem c65_38_s (hw : Cur w) : W2 Try.prog 120 V65 c65_38 Q e w = (opsW (nx Try.prog) mv gdP 120 V65 o65_6 (fun e w => Q .ret e w) o65_6.toList [] e e w) := by rw [(by kernel_rfl : c65_38 = .seq (.region 6 o65_6 false) Code.ret), W2_seq_reg]; simp only [W2_ret, W2_skip, W2_exit, W2_label]
theorem c65_37_s (hw : Cur w) : W2 Try.prog 120 V65 c65_37 Q e w = (opsW (nx Try.prog) mv gdP 120 V65 o65_5 (fun e w => W2 Try.prog 120 V65 c65_38 Q e w) o65_5.toList [] e e w) := by rw [(by kernel_rfl : c65_37 = .seq (.region 5 o65_5 false) c65_38), W2_seq_reg]
theorem c65_36_v : opV V65 (.tmp 46) = true := by kernel_rfl
theorem c65_36_s (hw : Cur w) : W2 Try.prog 120 V65 c65_36 Q e w = (condP (ev e (.tmp 46)) (W2 Try.prog 120 V65 c65_37 Q e w) (Q .normal e w)) := by rw [(by kernel_rfl : c65_36 = .cond (.tmp 46) c65_37 Code.skip), W2_cond, c65_36_v, cond_true]; simp only [W2_ret, W2_skip, W2_exit, W2_label]
theorem c65_35_s (hw : Cur w) : W2 Try.prog 120 V65 c65_35 Q e w = (∃ S : Nat → World → Prop, drawGo2 (nx Try.prog) (fun i => takeP Try.prog (S i)) mv gdP gdT 120 V65 o65_4 S (fun e w => W2 Try.prog 120 V65 c65_36 Q e w) o65_4.size [] (Array.replicate o65_4.size false) [] e e w.drew) := by rw [(by kernel_rfl : c65_35 = .seq (.region 4 o65_4 true) c65_36), W2_seq_regD]
theorem c65_32_s (hw : Cur w) : W2 Try.prog 120 V65 c65_32 Q e w = (W2 Try.prog 120 V65 c65_35 (seqQ (fun e w => W2 Try.prog 120 V65 c65_33 Q e w) Q) e w) := by rw [(by kernel_rfl : c65_32 = .seq c65_35 c65_33), W2_seq]
theorem c65_31_v : opV V65 (.tmp 36) = true := by kernel_rfl
theorem c65_31_s (hw : Cur w) : W2 Try.prog 120 V65 c65_31 Q e w = (condP (ev e (.tmp 36)) (W2 Try.prog 120 V65 c65_32 Q e w) (Q .normal e w)) := by rw [(by kernel_rfl : c65_31 = .cond (.tmp 36) c65_32 Code.skip), W2_cond, c65_31_v, cond_true]; simp only [W2_ret, W2_skip, W2_exit, W2_label]
theorem c65_30_s (hw : Cur w) : W2 Try.prog 120 V65 c65_30 Q e w = (∃ S : Nat → World → Prop, drawGo2 (nx Try.prog) (fun i => takeP Try.prog (S i)) mv gdP gdT 120 V65 o65_3 S (fun e w => W2 Try.prog 120 V65 c65_31 Q e w) o65_3.size [] (Array.replicate o65_3.size false) [] e e w.drew) := by rw [(by kernel_rfl : c65_30 = .seq (.region 3 o65_3 true) c65_31), W2_seq_regD]
theorem c65_2_s (hw : Cur w) : W2 Try.prog 120 V65 c65_2 Q e w = (W2 Try.prog 120 V65 c65_30 (seqQ (fun e w => W2 Try.prog 120 V65 c65_3 Q e w) Q) e w) := by rw [(by kernel_rfl : c65_2 = .seq c65_30 c65_3), W2_seq]
theorem o65_1_eq : drawGo2 N T2 M G H 120 V65 o65_1 S2 k o65_1.size [] (Array.replicate o65_1.size false) [] e e w =
    (S2 0 w ∧ (T2 0 (xv (Instr.fieldAt 54 (e 3) 0)) fun t10 =>
    S2 1 w ∧ (T2 1 (xv (Instr.loadAt 2 t10)) fun t11 =>
    S2 2 w ∧ (M (e 0) fun t12 =>
    S2 3 w ∧ (T2 3 (xnil t12) fun t13 =>
    S2 4 w ∧ (T2 4 (xv (Instr.fieldAt 62 t13 0)) fun t14 =>
    S2 5 w ∧ (T2 5 (xv (Instr.loadAt 2 t14)) fun t15 =>
    S2 6 w ∧ (T2 6 (xv (xbin BinOp.leq 2 (Operand.tmp 11) (Operand.tmp 15) t11 t15)) fun t16 =>
    S2 7 w ∧ (M t16 fun t17 =>
    S2 8 w ∧ (H (isB t17 false) (fun K => T2 8 (xv (Instr.fieldAt 54 (e 3) 0)) K) (fun t18 =>
    S2 9 w ∧ (H (isB t17 false) (fun K => T2 9 (xv (Instr.loadAt 2 t18)) K) (fun t19 =>
    S2 10 w ∧ (H (isB t17 false) (fun K => T2 10 (xv (xbin BinOp.gtr 2 (Operand.tmp 19) (Operand.const (Value.int IntKind.i64 1099511627776)) t19 (Value.int IntKind.i64 1099511627776))) K) (fun t20 =>
    S2 11 w ∧ (T2 11 (xpick t17 (Value.bool true) t20) fun t21 =>
    S2 12 w ∧ (M t21 fun t22 =>
    S2 13 w ∧ (H (isB t22 false) (fun K => M (e 0) K) (fun t23 =>
    S2 14 w ∧ (H (isB t22 false) (fun K => T2 14 (xv (Instr.fieldAt 54 (e 3) 0)) K) (fun t24 =>
    S2 15 w ∧ (H (isB t22 false) (fun K => T2 15 (xv (Instr.loadAt 2 t24)) K) (fun t25 =>
    G (isB t22 false) (fun K => N (xcall (Value.func (Fn.func 87) #[] #[]) [t23, t25]) w K) (fun t26 w =>
    S2 14 w ∧ (S2 11 w ∧ (S2 10 w ∧ (S2 9 w ∧ (S2 8 w ∧ (S2 7 w ∧ (S2 6 w ∧ (S2 5 w ∧ (S2 4 w ∧ (S2 3 w ∧ (S2 2 w ∧ (S2 1 w ∧ (S2 0 w ∧ (S2 17 w ∧ (H (isB t22 false) (fun K => T2 17 (xv (xbin BinOp.geq 3 (Operand.tmp 26) (Operand.const (Value.int IntKind.i64 0)) t26 (Value.int IntKind.i64 0))) K) (fun t27 =>
    S2 18 w ∧ (T2 18 (xpick t22 (Value.bool true) t27) fun t28 =>
    k (Env.p e 28 t28) w))))))))))))))))) w))))))))))))))))))))))) := nr (by kernel_rfl)
theorem o65_2_eq : opsW N M G 120 V65 o65_2 k o65_2.toList [] e e w =
    (M (Value.slice none 0 0) fun t4 =>
    M (Value.bool false) fun t5 =>
    k (Env.p (Env.p e 4 t4) 5 t5) w) := nr (by kernel_rfl)
theorem c65_41_s (hw : Cur w) : W2 Try.prog 120 V65 c65_41 Q e w = (opsW (nx Try.prog) mv gdP 120 V65 o65_2 (fun e w => Q .ret e w) o65_2.toList [] e e w) := by rw [(by kernel_rfl : c65_41 = .seq (.region 2 o65_2 false) Code.ret), W2_seq_reg]; simp only [W2_ret, W2_skip, W2_exit, W2_label]
theorem c65_40_v : opV V65 (.tmp 28) = true := by kernel_rfl
theorem c65_40_s (hw : Cur w) : W2 Try.prog 120 V65 c65_40 Q e w = (condP (ev e (.tmp 28)) (W2 Try.prog 120 V65 c65_41 Q e w) (Q .normal e w)) := by rw [(by kernel_rfl : c65_40 = .cond (.tmp 28) c65_41 Code.skip), W2_cond, c65_40_v, cond_true]; simp only [W2_ret, W2_skip, W2_exit, W2_label]
theorem c65_39_s (hw : Cur w) : W2 Try.prog 120 V65 c65_39 Q e w = (∃ S : Nat → World → Prop, drawGo2 (nx Try.prog) (fun i => takeP Try.prog (S i)) mv gdP gdT 120 V65 o65_1 S (fun e w => W2 Try.prog 120 V65 c65_40 Q e w) o65_1.size [] (Array.replicate o65_1.size false) [] e e w.drew) := by rw [(by kernel_rfl : c65_39 = .seq (.region 1 o65_1 true) c65_40), W2_seq_regD]
theorem c65_1_s (hw : Cur w) : W2 Try.prog 120 V65 c65_1 Q e w = (W2 Try.prog 120 V65 c65_39 (seqQ (fun e w => W2 Try.prog 120 V65 c65_2 Q e w) Q) e w) := by rw [(by kernel_rfl : c65_1 = .seq c65_39 c65_2), W2_seq]
theorem c65_s (hw : Cur w) : W2 Try.prog 120 V65 c65 Q e w = (opsW (nx Try.prog) mv gdP 120 V65 o65_0 (fun e w => W2 Try.prog 120 V65 c65_1 Q e w) o65_0.toList [] e e w) := by rw [(by kernel_rfl : c65 = .seq (.region 0 o65_0 false) c65_1), W2_seq_reg]
theorem call65 {a0 a1 : Value} {w : World} {R : Value → World → Prop} (h : W2 Try.prog 120 V65 c65 (retQ Try.prog [.tmp 4, .tmp 5] R) (argE [a0, a1]) w) : CallsN Try.prog 65 [a0, a1] w R :=
  callsN_of_W2 (c := c65) (rs := [.tmp 4, .tmp 5]) V65 Try.ntmps65 (by rw [Try.results65]) mixed Try.func65 (by kernel_rfl) (by kernel_rfl) (by kernel_rfl) (by kernel_rfl) (by simp) h
noncomputable def hk65 := And.intro (@o65_0_eq) <| And.intro (@o65_9_eq) <| And.intro (@o65_10_eq) <| And.intro (@o65_11_eq) <| And.intro (@o65_14_eq) <| And.intro (@o65_15_eq) <| And.intro (@o65_16_eq) <| And.intro (@o65_22_eq) <| And.intro (@c65_14_s) <| And.intro (@o65_17_eq) <| And.intro (@o65_19_eq) <| And.intro (@c65_20_s) <| And.intro (@o65_20_eq) <| And.intro (@o65_21_eq) <| And.intro (@c65_24_s) <| And.intro (@c65_23_s) <| And.intro (@c65_22_s) <| And.intro (@c65_21_s) <| And.intro (@c65_19_s) <| And.intro (@o65_18_eq) <| And.intro (@c65_26_s) <| And.intro (@c65_25_s) <| And.intro (@c65_18_s) <| And.intro (@c65_17_s) <| And.intro (@c65_16_s) <| And.intro (@c65_15_s) <| And.intro (@c65_13_s) <| And.intro (@c65_12_s) <| And.intro (@c65_11_s) <| And.intro (@c65_10_s) <| And.intro (@o65_12_eq) <| And.intro (@o65_13_eq) <| And.intro (@c65_29_s) <| And.intro (@c65_28_s) <| And.intro (@c65_27_s) <| And.intro (@c65_9_s) <| And.intro (@c65_8_s) <| And.intro (@c65_7_s) <| And.intro (@c65_6_s) <| And.intro (@c65_5_s) <| And.intro (@c65_4_s) <| And.intro (@c65_3_s) <| And.intro (@o65_3_eq) <| And.intro (@o65_7_eq) <| And.intro (@o65_8_eq) <| And.intro (@c65_34_s) <| And.intro (@c65_33_s) <| And.intro (@o65_4_eq) <| And.intro (@o65_5_eq) <| And.intro (@o65_6_eq) <| And.intro (@c65_38_s) <| And.intro (@c65_37_s) <| And.intro (@c65_36_s) <| And.intro (@c65_35_s) <| And.intro (@c65_32_s) <| And.intro (@c65_31_s) <| And.intro (@c65_30_s) <| And.intro (@c65_2_s) <| And.intro (@o65_1_eq) <| And.intro (@o65_2_eq) <| And.intro (@c65_41_s) <| And.intro (@c65_40_s) <| And.intro (@c65_39_s) <| And.intro (@c65_1_s) <| @c65_s
-- K65: ↓hk65
end
end Go.Proofs.Ytenokheiindfkaa
