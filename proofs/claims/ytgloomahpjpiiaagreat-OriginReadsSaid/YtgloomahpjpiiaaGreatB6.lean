/- A store into a list that is the call's own. -/
import Derived.Test.YtgloomahpjpiiaaGreatQ0
set_option linter.unusedVariables false
set_option linter.unusedSimpArgs false
set_option maxRecDepth 10000
namespace Go.Proofs.YtgloomahpjpiiaaGreat
open Go.VW
theorem cellsOf_set {α : Type} {k : Nat} {enc : α → List Value} (hk : ∀ x, (enc x).length = k) : ∀ (xs : List α) (i : Nat) (x : α), i < xs.length → cellsOf enc (xs.set i x) = (cellsOf enc xs).take (i * k) ++ enc x ++ (cellsOf enc xs).drop (i * k + k)
 | [], i, x, h => by simp at h
 | y :: ys, 0, x, h => by
   have hy := hk y
   simp only [cellsOf, List.flatMap_cons, List.set_cons_zero, Nat.zero_mul, List.take_zero, List.nil_append, Nat.zero_add]
   rw [List.drop_append_of_le_length (by omega), List.drop_of_length_le (by omega), List.nil_append]
 | y :: ys, i + 1, x, h => by
   have ih := cellsOf_set hk ys i x (by simpa using h)
   have hy := hk y
   simp only [cellsOf, List.flatMap_cons, List.set_cons_succ] at ih ⊢
   rw [ih]
   have e1 : (i + 1) * k = (enc y).length + i * k := by rw [hy, Nat.add_mul]; omega
   have e2 : (i + 1) * k + k = (enc y).length + (i * k + k) := by rw [e1]; omega
   rw [e2, e1, List.take_length_add_append, List.drop_length_add_append]
   simp only [List.append_assoc]
end Go.Proofs.YtgloomahpjpiiaaGreat
