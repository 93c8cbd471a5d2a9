/- Counted loops. -/
import Derived.Test.YtldmkhakjnglmaaCE
set_option linter.unusedVariables false
set_option linter.unusedSimpArgs false
namespace Go.VW
/-- A loop whose slot s counts from a number up to N. -/
theorem for_intro {body : Env → World → (Env → World → Prop) → Prop} {e : Env} {w : World} (N s i0 : Nat) (I : Nat → Env → World → Prop) (h0 : e s = .int .i64 i0) (hN : i0 ≤ N) (hI : I i0 e w)
    (hs : ∀ (i : Nat) (e : Env) (w : World) (k : Env → World → Prop), i ≤ N → e s = .int .i64 i → I i e w → (∀ (e' : Env) (w' : World), i < N → e' s = .int .i64 ((i : Int) + 1) → I (i + 1) e' w' → k e' w') → body e w k) : LoopP body e w := by
  refine loop_intro (fun e w => ∃ i : Nat, i ≤ N ∧ e s = .int .i64 i ∧ I i e w) (fun e _ => N - (numOf (e s)).toNat) ⟨i0, hN, h0, hI⟩ ?_
  rintro e w k ⟨i, hi, hes, hIi⟩ hk
  refine hs i e w k hi hes hIi fun e' w' hlt he' hI' => hk e' w' ⟨i + 1, by omega, by rw [he']; congr 1, hI'⟩ ?_
  have h3 : ((i : Int) + 1).toNat = i + 1 := by omega
  simp only [he', hes, numOf, Int.toNat_natCast, h3]; omega
theorem Own.frN {k n : Nat} {e : TypeId} {w w' : World} {v : Value} {cs : List Value} (h : Own k e w v n cs) (hf : Fr [] w w') : Own k e w' v n cs := h.fr (M := []) hf (by simp)
end Go.VW
