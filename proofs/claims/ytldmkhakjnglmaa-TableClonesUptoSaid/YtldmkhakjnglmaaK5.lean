/- The equations of the code of some functions, written by the printer gen.py: each is checked by the kernel. -/
import Derived.Test.YtldmkhakjnglmaaQ0
import Derived.Test.YtldmkhakjnglmaaCB
set_option linter.unusedVariables false
set_option linter.unusedSimpArgs false
set_option maxRecDepth 100000
namespace Go.Proofs.Ytldmkhakjnglmaa
open Go.VW
noncomputable section
set_option linter.defProp false
variable {N : Sem Next → World → (Value → World → Prop) → Prop} {T : Sem Next → (Value → Prop) → Prop} {M : Value → (Value → Prop) → Prop} {G : Bool → ((Value → World → Prop) → Prop) → (Value → World → Prop) → World → Prop}
  {H : Bool → ((Value → Prop) → Prop) → (Value → Prop) → Prop} {S : World → Prop} {k : Env → World → Prop} {Q : Exit → Env → World → Prop} {e : Env} {w : World}
  {T2 : Nat → Sem Next → (Value → Prop) → Prop} {S2 : Nat → World → Prop}
/-! ### vouch/vouchlaw10.step -/
def V9 : Nat → Bool := fun i => [0, 1, 2, 5, 6, 7, 8, 9, 10, 11, 12, 13, 14, 15, 21, 22, 33, 48, 76].elem i
noncomputable def c9 : Code := (Try.f9.body.getD .skip)
noncomputable def o9_0 : Array Oper := rO (cL c9)
noncomputable def c9_1 : Code := (cR c9)
noncomputable def o9_1 : Array Oper := rO (cL c9_1)
noncomputable def c9_2 : Code := (cR c9_1)
noncomputable def c9_3 : Code := (cR c9_2)
noncomputable def o9_15 : Array Oper := rO (cL c9_3)
noncomputable def c9_4 : Code := (cL c9_2)
noncomputable def o9_2 : Array Oper := rO (cL c9_4)
noncomputable def c9_5 : Code := (cR c9_4)
noncomputable def c9_6 : Code := (cL c9_5)
noncomputable def o9_3 : Array Oper := rO (cL c9_6)
noncomputable def c9_7 : Code := (cR c9_6)
noncomputable def c9_8 : Code := (cL c9_7)
noncomputable def o9_4 : Array Oper := rO (cL c9_8)
noncomputable def c9_9 : Code := (cR c9_7)
noncomputable def o9_5 : Array Oper := rO (cL c9_9)
noncomputable def c9_10 : Code := (cR c9_9)
noncomputable def c9_11 : Code := (cL c9_10)
noncomputable def o9_6 : Array Oper := rO (cL c9_11)
noncomputable def c9_12 : Code := (cR c9_10)
noncomputable def o9_7 : Array Oper := rO (cL c9_12)
noncomputable def c9_13 : Code := (cR c9_12)
noncomputable def c9_14 : Code := (cL c9_13)
noncomputable def o9_8 : Array Oper := rO (cL c9_14)
noncomputable def c9_15 : Code := (cR c9_14)
noncomputable def o9_9 : Array Oper := rO (cL c9_15)
noncomputable def c9_16 : Code := (cR c9_15)
noncomputable def o9_10 : Array Oper := rO (cL c9_16)
noncomputable def c9_17 : Code := (cR c9_13)
noncomputable def o9_11 : Array Oper := rO (cL c9_17)
noncomputable def c9_18 : Code := (cR c9_17)
noncomputable def c9_19 : Code := (cL c9_18)
noncomputable def o9_12 : Array Oper := rO (cL c9_19)
noncomputable def c9_20 : Code := (cR c9_19)
noncomputable def o9_13 : Array Oper := rO (cL c9_20)
noncomputable def c9_21 : Code := (cR c9_20)
noncomputable def o9_14 : Array Oper := rO (cL c9_21)
theorem o9_0_eq : opsW N M G 117 V9 o9_0 k o9_0.toList [] e e w =
    (N (xv (Instr.box 40 (e 2))) w fun t5 w =>
    M (Value.bool false) fun t6 =>
    k (Env.p (Env.p e 5 t5) 6 t6) w) := nr (by kernel_rfl)
theorem o9_1_eq : opsW N M G 117 V9 o9_1 k o9_1.toList [] e e w =
    (N (xv (Instr.fieldAt 40 (e 5) 1)) w fun t16 w =>
    N (xv (Instr.fieldAt 36 t16 0)) w fun t17 w =>
    N (xv (Instr.loadAt 34 t17)) w fun t18 w =>
    N (xv (Instr.alloc 34 true (.tuple #[]))) w fun t7 w =>
    N (xu (Instr.storeAt 34 t7 t18)) w fun _ w =>
    k (Env.p e 7 t7) w) := nr (by kernel_rfl)
theorem o9_15_eq : drawGo2 N T2 M G H 117 V9 o9_15 S2 k o9_15.size [] (Array.replicate o9_15.size false) [] e e w =
    (S2 0 w ∧ (M (e 0) fun t108 =>
    S2 1 w ∧ (T2 1 (xv (Instr.fieldAt 34 (e 7) 0)) fun t109 =>
    S2 2 w ∧ (T2 2 (xv (Instr.loadAt 9 t109)) fun t110 =>
    S2 4 w ∧ (M (e 1) fun t112 =>
    S2 5 w ∧ (T2 5 (xv (Instr.fieldAt 34 (e 7) 0)) fun t113 =>
    S2 6 w ∧ (T2 6 (xv (Instr.loadAt 9 t113)) fun t114 =>
    N (xcall (Value.func (Fn.func 18) #[] #[]) [t108, t110]) w fun t111 w =>
    S2 6 w ∧ (S2 5 w ∧ (S2 4 w ∧ (S2 1 w ∧ (N (xcall (Value.func (Fn.func 26) #[] #[]) [t112, t114]) w fun t115 w =>
    S2 5 w ∧ (S2 1 w ∧ (N (xcall (Value.func (Fn.func 13) #[] #[]) [t111, t115]) w fun t116 w =>
    S2 5 w ∧ (S2 1 w ∧ (S2 9 w ∧ (M t116 fun t6 =>
    k (Env.p e 6 t6) w)))))))))))))))) := nr (by kernel_rfl)
theorem c9_3_s (hw : Cur w) : W2 Try.prog 117 V9 c9_3 Q e w = (∃ S : Nat → World → Prop, drawGo2 (nx Try.prog) (fun i => takeP Try.prog (S i)) mv gdP gdT 117 V9 o9_15 S (fun e w => Q .ret e w) o9_15.size [] (Array.replicate o9_15.size false) [] e e w.drew) := by rw [(by kernel_rfl : c9_3 = .seq (.region 15 o9_15 true) Code.ret), W2_seq_regD]; simp only [W2_ret, W2_skip, W2_exit, W2_label]
theorem o9_2_eq : opsW N M G 117 V9 o9_2 k o9_2.toList [] e e w =
    (N (xv (Instr.fieldAt 40 (e 5) 0)) w fun t19 w =>
    N (xv (Instr.loadAt 5 t19)) w fun t20 w =>
    N (xv (xbin BinOp.rem 5 (Operand.tmp 20) (Operand.const (Value.int IntKind.u8 5)) t20 (Value.int IntKind.u8 5))) w fun t21 w =>
    k (Env.p e 21 t21) w) := nr (by kernel_rfl)
theorem o9_3_eq : opsW N M G 117 V9 o9_3 k o9_3.toList [] e e w =
    (N (xv (xbin BinOp.eql 5 (Operand.tmp 21) (Operand.const (Value.int IntKind.u8 0)) (e 21) (Value.int IntKind.u8 0))) w fun t23 w =>
    M t23 fun t22 =>
    k (Env.p e 22 t22) w) := nr (by kernel_rfl)
theorem o9_4_eq : drawGo2 N T2 M G H 117 V9 o9_4 S2 k o9_4.size [] (Array.replicate o9_4.size false) [] e e w =
    (S2 0 w ∧ (M (e 0) fun t24 =>
    S2 1 w ∧ (T2 1 (xv (Instr.fieldAt 40 (e 5) 1)) fun t25 =>
    S2 2 w ∧ (T2 2 (xv (Instr.loadAt 36 t25)) fun t26 =>
    S2 4 w ∧ (M (e 1) fun t28 =>
    S2 5 w ∧ (T2 5 (xv (Instr.fieldAt 40 (e 5) 1)) fun t29 =>
    S2 6 w ∧ (T2 6 (xv (Instr.loadAt 36 t29)) fun t30 =>
    N (xcall (Value.func (Fn.func 15) #[] #[]) [t24, t26]) w fun t27 w =>
    S2 6 w ∧ (S2 5 w ∧ (S2 4 w ∧ (S2 1 w ∧ (N (xcall (Value.func (Fn.func 22) #[] #[]) [t28, t30]) w fun t31 w =>
    S2 5 w ∧ (S2 1 w ∧ (S2 8 w ∧ (T2 8 (xv (xbin BinOp.eql 4 (Operand.tmp 27) (Operand.tmp 31) t27 t31)) fun t32 =>
    S2 9 w ∧ (M t32 fun t6 =>
    k (Env.p e 6 t6) w))))))))))))))) := nr (by kernel_rfl)
theorem c9_8_s (hw : Cur w) : W2 Try.prog 117 V9 c9_8 Q e w = (∃ S : Nat → World → Prop, drawGo2 (nx Try.prog) (fun i => takeP Try.prog (S i)) mv gdP gdT 117 V9 o9_4 S (fun e w => Q .ret e w) o9_4.size [] (Array.replicate o9_4.size false) [] e e w.drew) := by rw [(by kernel_rfl : c9_8 = .seq (.region 4 o9_4 true) Code.ret), W2_seq_regD]; simp only [W2_ret, W2_skip, W2_exit, W2_label]
theorem o9_5_eq : opsW N M G 117 V9 o9_5 k o9_5.toList [] e e w =
    (N (xv (xbin BinOp.eql 5 (Operand.tmp 21) (Operand.const (Value.int IntKind.u8 1)) (e 21) (Value.int IntKind.u8 1))) w fun t34 w =>
    M t34 fun t33 =>
    k (Env.p e 33 t33) w) := nr (by kernel_rfl)
theorem o9_6_eq : drawGo2 N T2 M G H 117 V9 o9_6 S2 k o9_6.size [] (Array.replicate o9_6.size false) [] e e w =
    (S2 0 w ∧ (M (e 0) fun t35 =>
    S2 1 w ∧ (T2 1 (xv (Instr.fieldAt 34 (e 7) 0)) fun t36 =>
    S2 2 w ∧ (T2 2 (xv (Instr.loadAt 9 t36)) fun t37 =>
    S2 3 w ∧ (T2 3 (xv (Instr.fieldAt 34 (e 7) 2)) fun t38 =>
    S2 4 w ∧ (T2 4 (xv (Instr.loadAt 2 t38)) fun t39 =>
    S2 6 w ∧ (M (e 1) fun t41 =>
    S2 7 w ∧ (T2 7 (xv (Instr.fieldAt 34 (e 7) 0)) fun t42 =>
    S2 8 w ∧ (T2 8 (xv (Instr.loadAt 9 t42)) fun t43 =>
    S2 9 w ∧ (T2 9 (xv (Instr.fieldAt 34 (e 7) 2)) fun t44 =>
    S2 10 w ∧ (T2 10 (xv (Instr.loadAt 2 t44)) fun t45 =>
    N (xcall (Value.func (Fn.func 21) #[] #[]) [t35, t37, t39]) w fun t40 w =>
    S2 10 w ∧ (S2 9 w ∧ (S2 8 w ∧ (S2 7 w ∧ (S2 6 w ∧ (S2 3 w ∧ (S2 1 w ∧ (N (xcall (Value.func (Fn.func 23) #[] #[]) [t41, t43, t45]) w fun t46 w =>
    S2 9 w ∧ (S2 7 w ∧ (S2 3 w ∧ (S2 1 w ∧ (S2 12 w ∧ (T2 12 (xv (xbin BinOp.eql 4 (Operand.tmp 40) (Operand.tmp 46) t40 t46)) fun t47 =>
    S2 13 w ∧ (M t47 fun t6 =>
    k (Env.p e 6 t6) w)))))))))))))))))))))))) := nr (by kernel_rfl)
theorem c9_11_s (hw : Cur w) : W2 Try.prog 117 V9 c9_11 Q e w = (∃ S : Nat → World → Prop, drawGo2 (nx Try.prog) (fun i => takeP Try.prog (S i)) mv gdP gdT 117 V9 o9_6 S (fun e w => Q .ret e w) o9_6.size [] (Array.replicate o9_6.size false) [] e e w.drew) := by rw [(by kernel_rfl : c9_11 = .seq (.region 6 o9_6 true) Code.ret), W2_seq_regD]; simp only [W2_ret, W2_skip, W2_exit, W2_label]
theorem o9_7_eq : opsW N M G 117 V9 o9_7 k o9_7.toList [] e e w =
    (N (xv (xbin BinOp.eql 5 (Operand.tmp 21) (Operand.const (Value.int IntKind.u8 2)) (e 21) (Value.int IntKind.u8 2))) w fun t49 w =>
    M t49 fun t48 =>
    k (Env.p e 48 t48) w) := nr (by kernel_rfl)
theorem o9_8_eq : opsW N M G 117 V9 o9_8 k o9_8.toList [] e e w =
    (M (e 0) fun t51 =>
    N (xv (Instr.fieldAt 34 (e 7) 0)) w fun t52 w =>
    N (xv (Instr.loadAt 9 t52)) w fun t53 w =>
    N (xv (Instr.fieldAt 34 (e 7) 2)) w fun t54 w =>
    N (xv (Instr.loadAt 2 t54)) w fun t55 w =>
    N (xcall (Value.func (Fn.func 17) #[] #[]) [t51, t53, t55]) w fun t56 w =>
    M t56 fun t50 =>
    N (xv (Instr.extract t50 0)) w fun t57 w =>
    N (xv (Instr.extract t50 1)) w fun t58 w =>
    N (xv (Instr.alloc 36 true (.tuple #[]))) w fun t8 w =>
    N (xu (Instr.storeAt 36 t8 t57)) w fun _ w =>
    M t58 fun t9 =>
    k (Env.p (Env.p e 8 t8) 9 t9) w) := nr (by kernel_rfl)
theorem o9_9_eq : opsW N M G 117 V9 o9_9 k o9_9.toList [] e e w =
    (M (e 1) fun t60 =>
    N (xv (Instr.fieldAt 34 (e 7) 0)) w fun t61 w =>
    N (xv (Instr.loadAt 9 t61)) w fun t62 w =>
    N (xv (Instr.fieldAt 34 (e 7) 2)) w fun t63 w =>
    N (xv (Instr.loadAt 2 t63)) w fun t64 w =>
    N (xcall (Value.func (Fn.func 24) #[] #[]) [t60, t62, t64]) w fun t65 w =>
    M t65 fun t59 =>
    N (xv (Instr.extract t59 0)) w fun t66 w =>
    N (xv (Instr.extract t59 1)) w fun t67 w =>
    N (xv (Instr.alloc 36 true (.tuple #[]))) w fun t10 w =>
    N (xu (Instr.storeAt 36 t10 t66)) w fun _ w =>
    M t67 fun t11 =>
    k (Env.p (Env.p e 10 t10) 11 t11) w) := nr (by kernel_rfl)
theorem o9_10_eq : opsW N M G 117 V9 o9_10 k o9_10.toList [] e e w =
    (N (xv (Instr.loadAt 36 (e 8))) w fun t68 w =>
    N (xv (Instr.loadAt 36 (e 10))) w fun t69 w =>
    N (xv (xbin BinOp.eql 36 (Operand.tmp 68) (Operand.tmp 69) t68 t69)) w fun t70 w =>
    M t70 fun t71 =>
    G (isB t71 true) (fun K => M (e 9) fun v => K v w) (fun t72 w =>
    G (isB t71 true) (fun K => M (e 11) fun v => K v w) (fun t73 w =>
    G (isB t71 true) (fun K => N (xv (xbin BinOp.eql 4 (Operand.tmp 72) (Operand.tmp 73) t72 t73)) w K) (fun t74 w =>
    N (xpick t71 t74 (Value.bool false)) w fun t75 w =>
    M t75 fun t6 =>
    k (Env.p e 6 t6) w) w) w) w) := nr (by kernel_rfl)
theorem c9_16_s (hw : Cur w) : W2 Try.prog 117 V9 c9_16 Q e w = (opsW (nx Try.prog) mv gdP 117 V9 o9_10 (fun e w => Q .ret e w) o9_10.toList [] e e w) := by rw [(by kernel_rfl : c9_16 = .seq (.region 10 o9_10 false) Code.ret), W2_seq_reg]; simp only [W2_ret, W2_skip, W2_exit, W2_label]
theorem c9_15_s (hw : Cur w) : W2 Try.prog 117 V9 c9_15 Q e w = (opsW (nx Try.prog) mv gdP 117 V9 o9_9 (fun e w => W2 Try.prog 117 V9 c9_16 Q e w) o9_9.toList [] e e w) := by rw [(by kernel_rfl : c9_15 = .seq (.region 9 o9_9 false) c9_16), W2_seq_reg]
theorem c9_14_s (hw : Cur w) : W2 Try.prog 117 V9 c9_14 Q e w = (opsW (nx Try.prog) mv gdP 117 V9 o9_8 (fun e w => W2 Try.prog 117 V9 c9_15 Q e w) o9_8.toList [] e e w) := by rw [(by kernel_rfl : c9_14 = .seq (.region 8 o9_8 false) c9_15), W2_seq_reg]
theorem o9_11_eq : opsW N M G 117 V9 o9_11 k o9_11.toList [] e e w =
    (N (xv (xbin BinOp.eql 5 (Operand.tmp 21) (Operand.const (Value.int IntKind.u8 3)) (e 21) (Value.int IntKind.u8 3))) w fun t77 w =>
    M t77 fun t76 =>
    k (Env.p e 76 t76) w) := nr (by kernel_rfl)
theorem o9_12_eq : opsW N M G 117 V9 o9_12 k o9_12.toList [] e e w =
    (M (e 0) fun t79 =>
    N (xv (Instr.fieldAt 34 (e 7) 0)) w fun t80 w =>
    N (xv (Instr.loadAt 9 t80)) w fun t81 w =>
    N (xv (Instr.fieldAt 40 (e 5) 2)) w fun t82 w =>
    N (xv (Instr.loadAt 2 t82)) w fun t83 w =>
    N (xv (Instr.fieldAt 40 (e 5) 3)) w fun t84 w =>
    N (xv (Instr.loadAt 38 t84)) w fun t85 w =>
    N (xcall (Value.func (Fn.func 16) #[] #[]) [t79, t81, t83, t85]) w fun t86 w =>
    M t86 fun t78 =>
    N (xv (Instr.extract t78 0)) w fun t87 w =>
    N (xv (Instr.extract t78 1)) w fun t88 w =>
    N (xv (Instr.alloc 36 true (.tuple #[]))) w fun t12 w =>
    N (xu (Instr.storeAt 36 t12 t87)) w fun _ w =>
    M t88 fun t13 =>
    k (Env.p (Env.p e 12 t12) 13 t13) w) := nr (by kernel_rfl)
theorem o9_13_eq : opsW N M G 117 V9 o9_13 k o9_13.toList [] e e w =
    (M (e 1) fun t90 =>
    N (xv (Instr.fieldAt 34 (e 7) 0)) w fun t91 w =>
    N (xv (Instr.loadAt 9 t91)) w fun t92 w =>
    N (xv (Instr.fieldAt 40 (e 5) 2)) w fun t93 w =>
    N (xv (Instr.loadAt 2 t93)) w fun t94 w =>
    N (xv (Instr.fieldAt 40 (e 5) 3)) w fun t95 w =>
    N (xv (Instr.loadAt 38 t95)) w fun t96 w =>
    N (xcall (Value.func (Fn.func 25) #[] #[]) [t90, t92, t94, t96]) w fun t97 w =>
    M t97 fun t89 =>
    N (xv (Instr.extract t89 0)) w fun t98 w =>
    N (xv (Instr.extract t89 1)) w fun t99 w =>
    N (xv (Instr.alloc 36 true (.tuple #[]))) w fun t14 w =>
    N (xu (Instr.storeAt 36 t14 t98)) w fun _ w =>
    M t99 fun t15 =>
    k (Env.p (Env.p e 14 t14) 15 t15) w) := nr (by kernel_rfl)
theorem o9_14_eq : opsW N M G 117 V9 o9_14 k o9_14.toList [] e e w =
    (N (xv (Instr.loadAt 36 (e 12))) w fun t100 w =>
    N (xv (Instr.loadAt 36 (e 14))) w fun t101 w =>
    N (xv (xbin BinOp.eql 36 (Operand.tmp 100) (Operand.tmp 101) t100 t101)) w fun t102 w =>
    M t102 fun t103 =>
    G (isB t103 true) (fun K => M (e 13) fun v => K v w) (fun t104 w =>
    G (isB t103 true) (fun K => M (e 15) fun v => K v w) (fun t105 w =>
    G (isB t103 true) (fun K => N (xv (xbin BinOp.eql 4 (Operand.tmp 104) (Operand.tmp 105) t104 t105)) w K) (fun t106 w =>
    N (xpick t103 t106 (Value.bool false)) w fun t107 w =>
    M t107 fun t6 =>
    k (Env.p e 6 t6) w) w) w) w) := nr (by kernel_rfl)
theorem c9_21_s (hw : Cur w) : W2 Try.prog 117 V9 c9_21 Q e w = (opsW (nx Try.prog) mv gdP 117 V9 o9_14 (fun e w => Q .ret e w) o9_14.toList [] e e w) := by rw [(by kernel_rfl : c9_21 = .seq (.region 14 o9_14 false) Code.ret), W2_seq_reg]; simp only [W2_ret, W2_skip, W2_exit, W2_label]
theorem c9_20_s (hw : Cur w) : W2 Try.prog 117 V9 c9_20 Q e w = (opsW (nx Try.prog) mv gdP 117 V9 o9_13 (fun e w => W2 Try.prog 117 V9 c9_21 Q e w) o9_13.toList [] e e w) := by rw [(by kernel_rfl : c9_20 = .seq (.region 13 o9_13 false) c9_21), W2_seq_reg]
theorem c9_19_s (hw : Cur w) : W2 Try.prog 117 V9 c9_19 Q e w = (opsW (nx Try.prog) mv gdP 117 V9 o9_12 (fun e w => W2 Try.prog 117 V9 c9_20 Q e w) o9_12.toList [] e e w) := by rw [(by kernel_rfl : c9_19 = .seq (.region 12 o9_12 false) c9_20), W2_seq_reg]
theorem c9_18_v : opV V9 (.tmp 76) = true := by kernel_rfl
theorem c9_18_s (hw : Cur w) : W2 Try.prog 117 V9 c9_18 Q e w = (condP (ev e (.tmp 76)) (W2 Try.prog 117 V9 c9_19 Q e w) (Q .normal e w)) := by rw [(by kernel_rfl : c9_18 = .cond (.tmp 76) c9_19 Code.skip), W2_cond, c9_18_v, cond_true]; simp only [W2_ret, W2_skip, W2_exit, W2_label]
theorem c9_17_s (hw : Cur w) : W2 Try.prog 117 V9 c9_17 Q e w = (opsW (nx Try.prog) mv gdP 117 V9 o9_11 (fun e w => W2 Try.prog 117 V9 c9_18 Q e w) o9_11.toList [] e e w) := by rw [(by kernel_rfl : c9_17 = .seq (.region 11 o9_11 false) c9_18), W2_seq_reg]
theorem c9_13_v : opV V9 (.tmp 48) = true := by kernel_rfl
theorem c9_13_s (hw : Cur w) : W2 Try.prog 117 V9 c9_13 Q e w = (condP (ev e (.tmp 48)) (W2 Try.prog 117 V9 c9_14 Q e w) (W2 Try.prog 117 V9 c9_17 Q e w)) := by rw [(by kernel_rfl : c9_13 = .cond (.tmp 48) c9_14 c9_17), W2_cond, c9_13_v, cond_true]
theorem c9_12_s (hw : Cur w) : W2 Try.prog 117 V9 c9_12 Q e w = (opsW (nx Try.prog) mv gdP 117 V9 o9_7 (fun e w => W2 Try.prog 117 V9 c9_13 Q e w) o9_7.toList [] e e w) := by rw [(by kernel_rfl : c9_12 = .seq (.region 7 o9_7 false) c9_13), W2_seq_reg]
theorem c9_10_v : opV V9 (.tmp 33) = true := by kernel_rfl
theorem c9_10_s (hw : Cur w) : W2 Try.prog 117 V9 c9_10 Q e w = (condP (ev e (.tmp 33)) (W2 Try.prog 117 V9 c9_11 Q e w) (W2 Try.prog 117 V9 c9_12 Q e w)) := by rw [(by kernel_rfl : c9_10 = .cond (.tmp 33) c9_11 c9_12), W2_cond, c9_10_v, cond_true]
theorem c9_9_s (hw : Cur w) : W2 Try.prog 117 V9 c9_9 Q e w = (opsW (nx Try.prog) mv gdP 117 V9 o9_5 (fun e w => W2 Try.prog 117 V9 c9_10 Q e w) o9_5.toList [] e e w) := by rw [(by kernel_rfl : c9_9 = .seq (.region 5 o9_5 false) c9_10), W2_seq_reg]
theorem c9_7_v : opV V9 (.tmp 22) = true := by kernel_rfl
theorem c9_7_s (hw : Cur w) : W2 Try.prog 117 V9 c9_7 Q e w = (condP (ev e (.tmp 22)) (W2 Try.prog 117 V9 c9_8 Q e w) (W2 Try.prog 117 V9 c9_9 Q e w)) := by rw [(by kernel_rfl : c9_7 = .cond (.tmp 22) c9_8 c9_9), W2_cond, c9_7_v, cond_true]
theorem c9_6_s (hw : Cur w) : W2 Try.prog 117 V9 c9_6 Q e w = (opsW (nx Try.prog) mv gdP 117 V9 o9_3 (fun e w => W2 Try.prog 117 V9 c9_7 Q e w) o9_3.toList [] e e w) := by rw [(by kernel_rfl : c9_6 = .seq (.region 3 o9_3 false) c9_7), W2_seq_reg]
theorem c9_5_s (hw : Cur w) : W2 Try.prog 117 V9 c9_5 Q e w = (W2 Try.prog 117 V9 c9_6 (blockQ 0 Q) e w) := by rw [(by kernel_rfl : c9_5 = .block 0 c9_6), W2_block]
theorem c9_4_s (hw : Cur w) : W2 Try.prog 117 V9 c9_4 Q e w = (opsW (nx Try.prog) mv gdP 117 V9 o9_2 (fun e w => W2 Try.prog 117 V9 c9_5 Q e w) o9_2.toList [] e e w) := by rw [(by kernel_rfl : c9_4 = .seq (.region 2 o9_2 false) c9_5), W2_seq_reg]
theorem c9_2_s (hw : Cur w) : W2 Try.prog 117 V9 c9_2 Q e w = (W2 Try.prog 117 V9 c9_4 (seqQ (fun e w => W2 Try.prog 117 V9 c9_3 Q e w) Q) e w) := by rw [(by kernel_rfl : c9_2 = .seq c9_4 c9_3), W2_seq]
theorem c9_1_s (hw : Cur w) : W2 Try.prog 117 V9 c9_1 Q e w = (opsW (nx Try.prog) mv gdP 117 V9 o9_1 (fun e w => W2 Try.prog 117 V9 c9_2 Q e w) o9_1.toList [] e e w) := by rw [(by kernel_rfl : c9_1 = .seq (.region 1 o9_1 false) c9_2), W2_seq_reg]
theorem c9_s (hw : Cur w) : W2 Try.prog 117 V9 c9 Q e w = (opsW (nx Try.prog) mv gdP 117 V9 o9_0 (fun e w => W2 Try.prog 117 V9 c9_1 Q e w) o9_0.toList [] e e w) := by rw [(by kernel_rfl : c9 = .seq (.region 0 o9_0 false) c9_1), W2_seq_reg]
theorem call9 {a0 a1 a2 : Value} {w : World} {R : Value → World → Prop} (h : W2 Try.prog 117 V9 c9 (retQ Try.prog [.tmp 6] R) (argE [a0, a1, a2]) w) : CallsN Try.prog 9 [a0, a1, a2] w R :=
  callsN_of_W2 (c := c9) (rs := [.tmp 6]) V9 Try.ntmps9 (by rw [Try.results9]) mixed Try.func9 (by kernel_rfl) (by kernel_rfl) (by kernel_rfl) (by kernel_rfl) (by simp) h
noncomputable def hk9 := And.intro (@o9_0_eq) <| And.intro (@o9_1_eq) <| And.intro (@o9_15_eq) <| And.intro (@c9_3_s) <| And.intro (@o9_2_eq) <| And.intro (@o9_3_eq) <| And.intro (@o9_4_eq) <| And.intro (@c9_8_s) <| And.intro (@o9_5_eq) <| And.intro (@o9_6_eq) <| And.intro (@c9_11_s) <| And.intro (@o9_7_eq) <| And.intro (@o9_8_eq) <| And.intro (@o9_9_eq) <| And.intro (@o9_10_eq) <| And.intro (@c9_16_s) <| And.intro (@c9_15_s) <| And.intro (@c9_14_s) <| And.intro (@o9_11_eq) <| And.intro (@o9_12_eq) <| And.intro (@o9_13_eq) <| And.intro (@o9_14_eq) <| And.intro (@c9_21_s) <| And.intro (@c9_20_s) <| And.intro (@c9_19_s) <| And.intro (@c9_18_s) <| And.intro (@c9_17_s) <| And.intro (@c9_13_s) <| And.intro (@c9_12_s) <| And.intro (@c9_10_s) <| And.intro (@c9_9_s) <| And.intro (@c9_7_s) <| And.intro (@c9_6_s) <| And.intro (@c9_5_s) <| And.intro (@c9_4_s) <| And.intro (@c9_2_s) <| And.intro (@c9_1_s) <| @c9_s
-- K9: ↓hk9
end
end Go.Proofs.Ytldmkhakjnglmaa
