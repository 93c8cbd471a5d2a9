/- The generic engine, part 18: equations of code in short (for the printer gen3.py). -/
import Derived.Test.YtbbjnplellanaaaDoorCG
set_option linter.unusedVariables false
namespace Go.VW
noncomputable section
abbrev NT := Sem Next → World → (Value → World → Prop) → Prop
abbrev T3T := (World → Prop) → Sem Next → (Value → Prop) → Prop
abbrev MT := Value → (Value → Prop) → Prop
abbrev GT := Bool → ((Value → World → Prop) → Prop) → (Value → World → Prop) → World → Prop
abbrev HT := Bool → ((Value → Prop) → Prop) → (Value → Prop) → Prop
abbrev YT := Bool → Sem Next → Value → World → World → Prop
abbrev KT := Env → World → Prop
/-- A region's number. -/
def rI : Code → Nat
  | .region i _ _ => i
  | _ => 0
section
variable {P : Program} {n : Nat} {V : Nat → Bool}
theorem s_reg (c b : Code) (F : NT → MT → GT → KT → Env → World → Prop) (h : c = .seq (.region (rI (cL c)) (rO (cL c)) false) b := by kernel_rfl) (hr : ∀ N M G k e w, opsW N M G n V (rO (cL c)) k (rO (cL c)).toList [] e e w = F N M G k e w := by intros; kernel_rfl) ⦃Q : Exit → Env → World → Prop⦄ ⦃e : Env⦄ ⦃w : World⦄ (hw : Cur w) : W3 P n V c Q e w = F (nx P) mv gdP (W3 P n V b Q) e w :=
  (congrArg (W3 P n V · Q e w) h).trans (by rw [W3_seq_reg, hr])
theorem s_rend (c : Code) (F : NT → MT → GT → KT → Env → World → Prop) (h : c = .region (rI c) (rO c) false := by kernel_rfl) (hr : ∀ N M G k e w, opsW N M G n V (rO c) k (rO c).toList [] e e w = F N M G k e w := by intros; kernel_rfl) ⦃Q : Exit → Env → World → Prop⦄ ⦃e : Env⦄ ⦃w : World⦄ (hw : Cur w) : W3 P n V c Q e w = F (nx P) mv gdP (Q .normal) e w :=
  (congrArg (W3 P n V · Q e w) h).trans (by rw [W3_reg, hr])
theorem s_drw (c b : Code) (tb : List Row) (f : Nat) (F : NT → T3T → MT → GT → HT → YT → KT → Env → World → Prop) (h : c = .seq (.region (rI (cL c)) (rO (cL c)) true) b := by kernel_rfl) (ht : chkTab (rO (cL c)) tb = true := by kernel_rfl) (hf : (rO (cL c)).size = f := by kernel_rfl) (hr : ∀ N T M G H Y k e w, drawGo3 N T M G H Y n V (rO (cL c)) tb (puK (rO (cL c))) k f [] 0 [] e e w = F N T M G H Y k e w := by intros; kernel_rfl) ⦃Q : Exit → Env → World → Prop⦄ ⦃e : Env⦄ ⦃w : World⦄ (hw : Cur w) :
    W3 P n V c Q e w = F (nx P) (takeP P) mv gdP gdT (stays P) (W3 P n V b Q) e w.drew :=
  (congrArg (W3 P n V · Q e w) h).trans (by rw [W3_seq_regD _ _ _ _ _ _ _ _ _ ht, hf, hr])
theorem s_drwE (c : Code) (tb : List Row) (f : Nat) (F : NT → T3T → MT → GT → HT → YT → KT → Env → World → Prop) (h : c = .region (rI c) (rO c) true := by kernel_rfl) (ht : chkTab (rO c) tb = true := by kernel_rfl) (hf : (rO c).size = f := by kernel_rfl) (hr : ∀ N T M G H Y k e w, drawGo3 N T M G H Y n V (rO c) tb (puK (rO c)) k f [] 0 [] e e w = F N T M G H Y k e w := by intros; kernel_rfl) ⦃Q : Exit → Env → World → Prop⦄ ⦃e : Env⦄ ⦃w : World⦄ (hw : Cur w) :
    W3 P n V c Q e w = F (nx P) (takeP P) mv gdP gdT (stays P) (Q .normal) e w.drew :=
  (congrArg (W3 P n V · Q e w) h).trans (by rw [W3_regD' _ _ _ _ _ _ _ _ ht, hf, hr])
theorem s_seq (c b a : Code) (h : c = .seq a b := by kernel_rfl) ⦃Q : Exit → Env → World → Prop⦄ ⦃e : Env⦄ ⦃w : World⦄ (hw : Cur w) : W3 P n V c Q e w = W3 P n V a (seqQ (W3 P n V b Q) Q) e w := by
  rw [h, W3_seq]
theorem s_cond (c b : Code) (x : Nat) (a : Code) (h : c = .cond (.tmp x) a b := by kernel_rfl) (hv : opV V (.tmp x) = true := by kernel_rfl) ⦃Q : Exit → Env → World → Prop⦄ ⦃e : Env⦄ ⦃w : World⦄ (hw : Cur w) : W3 P n V c Q e w = condP (e x) (W3 P n V a Q e w) (W3 P n V b Q e w) := by
  rw [h, W3_cond, hv, cond_true]; rfl
theorem s_condC (c b : Code) (x : Value) (a : Code) (h : c = .cond (.const x) a b := by kernel_rfl) ⦃Q : Exit → Env → World → Prop⦄ ⦃e : Env⦄ ⦃w : World⦄ (hw : Cur w) : W3 P n V c Q e w = condP x (W3 P n V a Q e w) (W3 P n V b Q e w) := by
  rw [h, W3_cond]; rfl
theorem s_block (c b : Code) (id : Nat) (h : c = .block id b := by kernel_rfl) ⦃Q : Exit → Env → World → Prop⦄ ⦃e : Env⦄ ⦃w : World⦄ (hw : Cur w) : W3 P n V c Q e w = W3 P n V b (blockQ id Q) e w := by
  rw [h, W3_block]
theorem s_scope (c b : Code) (h : c = .scope b := by kernel_rfl) ⦃Q : Exit → Env → World → Prop⦄ ⦃e : Env⦄ ⦃w : World⦄ (hw : Cur w) : W3 P n V c Q e w = W3 P n V b (gotoN Q) e w := by
  rw [h, W3_scope]
theorem s_loop (c b : Code) (h : c = .loop b := by kernel_rfl) ⦃Q : Exit → Env → World → Prop⦄ ⦃e : Env⦄ ⦃w : World⦄ (hw : Cur w) : W3 P n V c Q e w = LoopP (fun e w k => W3 P n V b (seqQ k Q) e w) e w := by
  rw [h, W3_loop]
end
/-- The trivial ends. -/
theorem w3t (P : Program) (n : Nat) (V : Nat → Bool) : (∀ {Q : Exit → Env → World → Prop} {e : Env} {w : World}, W3 P n V .ret Q e w = Q .ret e w) ∧ (∀ {Q : Exit → Env → World → Prop} {e : Env} {w : World}, W3 P n V .skip Q e w = Q .normal e w) ∧
    (∀ {Q : Exit → Env → World → Prop} {e : Env} {w : World} (l : Nat), W3 P n V (.label l) Q e w = Q .normal e w) ∧ ∀ {Q : Exit → Env → World → Prop} {e : Env} {w : World} (i : Nat), W3 P n V (.exit i) Q e w = Q (.exit i) e w := ⟨W3_ret, W3_skip, fun l => W3_label l, fun i => W3_exit i⟩
end
end Go.VW
