/- A store into a list that is the call's own. -/
import Derived.Test.YtbbjnplellanaaaDoorQ0
set_option linter.unusedVariables false
set_option linter.unusedSimpArgs false
set_option maxRecDepth 10000
namespace Go.Proofs.YtbbjnplellanaaaDoor
open Go.VW
theorem cellsOf_set {α : Type} {k : Nat} {enc : α → List Value} (hk : ∀ x, (enc x).length = k) : ∀ (xs : List α) (i : Nat) (x : α), i < xs.length → cellsOf enc (xs.set i x) = (cellsOf enc xs).take (i * k) ++ enc x ++ (cellsOf enc xs).drop (i * k + k)
 | [], i, x, h => by simp at h
 | y :: ys, 0, x, h => by
   have hy := hk y
   simp only [cellsOf, List.flatMap_cons, List.set_cons_zero, Nat.zero_mul, List.take_zero, List.nil_append, Nat.zero_add]
   rw [List.drop_append_of_le_length (by omega), List.drop_of_length_le (by omega), List.nil_append]
 | y :: ys, i + 1, x, h => by
   have ih := cellsOf_set hk ys i x (by simpa using h)
   have hy := hk y
   simp only [cellsOf, List.flatMap_cons, List.set_cons_succ] at ih ⊢
   rw [ih]
   have e1 : (i + 1) * k = (enc y).length + i * k := by rw [hy, Nat.add_mul]; omega
   have e2 : (i + 1) * k + k = (enc y).length + (i * k + k) := by rw [e1]; omega
   rw [e2, e1, List.take_length_add_append, List.drop_length_add_append]
   simp only [List.append_assoc]
theorem own_storeN {α : Type} {k : Nat} {e : TypeId} {enc : α → List Value} (hk : ∀ x, (enc x).length = k) (h1 : ∀ x, (enc x).all oneC = true) {w : World} {g cap n i : Nat} {xs : List α} (h : Own k e w (.slice (some ⟨g, 0, none⟩) n cap) n (cellsOf enc xs)) (hl : xs.length = n) (hi : i < n) (x : α) :
  ∃ o o' : Obj, w.heap[g]? = some o ∧ g < w.heap.size ∧ (∀ orig K, stV orig k (some o) (i * k) (enc x) K = K o') ∧ Own k e (w.setB g o') (.slice (some ⟨g, 0, none⟩) n cap) n (cellsOf enc (xs.set i x)) := by
 rcases h.2 with ⟨h0, _⟩ | ⟨y, cap', cur', hvx, hb0, hgx, hnc, hcm, hcs, htk⟩
 ·cases h0
 ·simp only [Value.slice.injEq, Option.some.injEq, Addr.mk.injEq, and_true, true_and] at hvx
  obtain ⟨rfl, rfl⟩ := hvx
  obtain ⟨D, hD⟩ : ∃ D, D = cur'.toList := ⟨_, rfl⟩
  have hDl : D.length = cap * k := by rw [hD]; simpa using hcs
  have hgl := lt_of_get _ _ hgx
  have hgo : w.heap[g]? = some (Obj.cells D.toArray e (0, 0)) := by rw [hD]; simpa using hgx
  have hik : i * k + k ≤ n * k := by
   have : (i + 1) * k ≤ n * k := Nat.mul_le_mul_right k hi
   rw [Nat.add_mul] at this; omega
  have hnk : n * k ≤ cap * k := Nat.mul_le_mul_right k hnc
  have ht : D.take (n * k) = cellsOf enc xs := by rw [hD]; simpa using htk
  refine ⟨.cells D.toArray e (0, 0), .cells (D.take (i * k) ++ enc x ++ D.drop (i * k + k)).toArray e (0, 0), hgo, hgl, fun orig K => ?_, ?_⟩
  ·have hx := hk x
   rw [stV_cells orig k D.toArray e (i * k) (enc x) K hx (by simp only [List.size_toArray]; omega) (h1 x)]
   simp only [List.toList_toArray, hx]
  ·refine ⟨by rw [cellsOf_length hk, List.length_set, hl], .inr ⟨g, cap, _, rfl, hb0, get_setB_same _ _ _ hgl, hnc, hcm, ?_, ?_⟩⟩
   ·have := hk x
    simp only [List.size_toArray, List.length_append, List.length_take, List.length_drop]
    omega
   ·rw [cellsOf_set hk xs i x (by omega), ← ht]
    have hx := hk x
    have hlen : (D.take (i * k)).length = i * k := by rw [List.length_take]; omega
    rw [List.take_take, Nat.min_eq_left (by omega), List.drop_take]
    have e3 : n * k = i * k + (k + (n * k - (i * k + k))) := by omega
    have hq : ∀ m, (D.take (i * k) ++ enc x ++ D.drop (i * k + k)).take (i * k + (k + m)) = D.take (i * k) ++ enc x ++ (D.drop (i * k + k)).take m := fun m => by
     rw [List.append_assoc, show i * k + (k + m) = (D.take (i * k)).length + (k + m) by rw [hlen], List.take_length_add_append, show k + m = (enc x).length + m by rw [hx], List.take_length_add_append, List.append_assoc]
    simp only [List.toList_toArray]
    rw [← hq, ← e3]
end Go.Proofs.YtbbjnplellanaaaDoor
