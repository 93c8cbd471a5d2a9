/- The generic engine, part 18: equations of code in short (for the printer gen3.py). -/
import Derived.Test.YtgloomahpjpiiaaGreatCG
set_option linter.unusedVariables false
namespace Go.VW
noncomputable section
abbrev NT := Sem Next → World → (Value → World → Prop) → Prop
abbrev T3T := (World → Prop) → Sem Next → (Value → Prop) → Prop
abbrev MT := Value → (Value → Prop) → Prop
abbrev GT := Bool → ((Value → World → Prop) → Prop) → (Value → World → Prop) → World → Prop
abbrev HT := Bool → ((Value → Prop) → Prop) → (Value → Prop) → Prop
abbrev YT := Bool → Sem Next → Value → World → World → Prop
abbrev KT := Env → World → Prop
section
variable {P : Program} {n : Nat} {V : Nat → Bool} {c b : Code} {id : Nat} {o : Array Oper}
theorem s_reg (F : NT → MT → GT → KT → Env → World → Prop) (h : c = .seq (.region id o false) b) (hr : ∀ N M G k e w, opsW N M G n V o k o.toList [] e e w = F N M G k e w) {Q : Exit → Env → World → Prop} {e : Env} {w : World} (hw : Cur w) : W3 P n V c Q e w = F (nx P) mv gdP (W3 P n V b Q) e w := by
  rw [h, W3_seq_reg, hr]
theorem s_rend (F : NT → MT → GT → KT → Env → World → Prop) (h : c = .region id o false) (hr : ∀ N M G k e w, opsW N M G n V o k o.toList [] e e w = F N M G k e w) {Q : Exit → Env → World → Prop} {e : Env} {w : World} (hw : Cur w) : W3 P n V c Q e w = F (nx P) mv gdP (Q .normal) e w := by
  rw [h, W3_reg, hr]
theorem s_drw {tb : List Row} {f : Nat} (F : NT → T3T → MT → GT → HT → YT → KT → Env → World → Prop) (h : c = .seq (.region id o true) b) (ht : chkTab o tb = true) (hf : o.size = f) (hr : ∀ N T M G H Y k e w, drawGo3 N T M G H Y n V o tb (puK o) k f [] 0 [] e e w = F N T M G H Y k e w) {Q : Exit → Env → World → Prop} {e : Env} {w : World} (hw : Cur w) :
    W3 P n V c Q e w = F (nx P) (takeP P) mv gdP gdT (stays P) (W3 P n V b Q) e w.drew := by
  rw [h, W3_seq_regD _ _ _ _ _ _ _ _ _ ht, hf, hr]
theorem s_drwE {tb : List Row} {f : Nat} (F : NT → T3T → MT → GT → HT → YT → KT → Env → World → Prop) (h : c = .region id o true) (ht : chkTab o tb = true) (hf : o.size = f) (hr : ∀ N T M G H Y k e w, drawGo3 N T M G H Y n V o tb (puK o) k f [] 0 [] e e w = F N T M G H Y k e w) {Q : Exit → Env → World → Prop} {e : Env} {w : World} (hw : Cur w) :
    W3 P n V c Q e w = F (nx P) (takeP P) mv gdP gdT (stays P) (Q .normal) e w.drew := by
  rw [h, W3_regD' _ _ _ _ _ _ _ _ ht, hf, hr]
theorem s_seq {a : Code} (h : c = .seq a b) {Q : Exit → Env → World → Prop} {e : Env} {w : World} (hw : Cur w) : W3 P n V c Q e w = W3 P n V a (seqQ (W3 P n V b Q) Q) e w := by
  rw [h, W3_seq]
theorem s_cond {x : Nat} {a : Code} (h : c = .cond (.tmp x) a b) (hv : opV V (.tmp x) = true) {Q : Exit → Env → World → Prop} {e : Env} {w : World} (hw : Cur w) : W3 P n V c Q e w = condP (e x) (W3 P n V a Q e w) (W3 P n V b Q e w) := by
  rw [h, W3_cond, hv, cond_true]; rfl
theorem s_block (h : c = .block id b) {Q : Exit → Env → World → Prop} {e : Env} {w : World} (hw : Cur w) : W3 P n V c Q e w = W3 P n V b (blockQ id Q) e w := by
  rw [h, W3_block]
theorem s_loop (h : c = .loop b) {Q : Exit → Env → World → Prop} {e : Env} {w : World} (hw : Cur w) : W3 P n V c Q e w = LoopP (fun e w k => W3 P n V b (seqQ k Q) e w) e w := by
  rw [h, W3_loop]
end
/-- The trivial ends. -/
theorem w3t (P : Program) (n : Nat) (V : Nat → Bool) : (∀ {Q : Exit → Env → World → Prop} {e : Env} {w : World}, W3 P n V .ret Q e w = Q .ret e w) ∧ (∀ {Q : Exit → Env → World → Prop} {e : Env} {w : World}, W3 P n V .skip Q e w = Q .normal e w) ∧
    (∀ {Q : Exit → Env → World → Prop} {e : Env} {w : World} (l : Nat), W3 P n V (.label l) Q e w = Q .normal e w) ∧ ∀ {Q : Exit → Env → World → Prop} {e : Env} {w : World} (i : Nat), W3 P n V (.exit i) Q e w = Q (.exit i) e w := ⟨W3_ret, W3_skip, fun l => W3_label l, fun i => W3_exit i⟩
end
end Go.VW
