/- StreamClones: the first log is filled; what was handed in is written over. -/
import Derived.Test.YtenokheiindfkabE6
set_option linter.unusedVariables false
set_option linter.unusedSimpArgs false
set_option maxRecDepth 10000
namespace Go.Proofs.Ytenokheiindfkab
open Go.VW
abbrev sSpare : ByteArray := ⟨#[115, 112, 97, 114, 101]⟩
/-- A list of n strings that is the call's own. -/
structure OwnS (w : World) (v : Value) (n : Nat) : Prop where
  ex : ∃ ks : Ks, ks.length = n ∧ Own 1 9 w v n (cellsOf encS ks)
theorem cellsOf_encS_map' (ks : Ks) : cellsOf encS ks = ks.map Value.string := cellsOf_encS_map ks
theorem stV_set (orig : Prop) (l : List Value) (t : TypeId) (i : Nat) (v : Value) (k : Obj → Prop) (h : i < l.length) (h1 : oneC v = true) :
    stV orig 1 (some (.cells l.toArray t (0, 0))) i [v] k = k (.cells (l.set i v).toArray t (0, 0)) := by
  rw [stV_cells orig 1 l.toArray t i [v] k rfl (by simp; omega) (by simp [h1])]
  simp only [List.length_cons, List.length_nil]
  rw [List.set_eq_take_append_cons_drop, if_pos h]
  simp
/-- A string is stored in its place. -/
theorem own_store {w : World} {g cap n i : Nat} {ks : Ks} (h : Own 1 9 w (.slice (some ⟨g, 0, none⟩) n cap) n (cellsOf encS ks)) (hl : ks.length = n) (hi : i < n) (s : ByteArray) :
    ∃ o o' : Obj, w.heap[g]? = some o ∧ g < w.heap.size ∧ (∀ orig K, stV orig 1 (some o) i [.string s] K = K o') ∧ Own 1 9 (w.setB g o') (.slice (some ⟨g, 0, none⟩) n cap) n (cellsOf encS (ks.set i s)) ∧ ∀ {v' : Value} {n' : Nat} {ks' : Ks}, Own 1 9 w v' n' (cellsOf encS ks') → ks'.length = n' → OwnS (w.setB g o') v' n' := by
  rcases h.2 with ⟨h0, _⟩ | ⟨x, cap', cur', hvx, hb0, hgx, hnc, hcm, hcs, htk⟩
  · cases h0
  · simp only [Value.slice.injEq, Option.some.injEq, Addr.mk.injEq, and_true, true_and] at hvx
    obtain ⟨rfl, rfl⟩ := hvx
    obtain ⟨D, hD⟩ : ∃ D, D = cur'.toList := ⟨_, rfl⟩
    have hDl : D.length = cap := by rw [hD]; simpa using hcs
    have hgl := lt_of_get _ _ hgx
    have hgo : w.heap[g]? = some (Obj.cells D.toArray 9 (0, 0)) := by rw [hD]; simpa using hgx
    refine ⟨.cells D.toArray 9 (0, 0), .cells (D.set i (.string s)).toArray 9 (0, 0), hgo, hgl, fun orig K => ?_, ?_, fun {v' n' ks'} h' hl' => ?_⟩
    · exact stV_set _ D _ _ _ _ (by omega) rfl
    · refine ⟨by rw [cellsOf_length encS_len, List.length_set, hl], .inr ⟨g, cap, (D.set i (.string s)).toArray, rfl, hb0, get_setB_same _ _ _ hgl, hnc, hcm, by simp; omega, ?_⟩⟩
      have ht : D.take n = ks.map Value.string := by rw [hD, ← cellsOf_encS_map']; simpa using htk
      rw [cellsOf_encS_map', List.map_set]
      rw [← ht]
      simp [List.take_set]
    · rcases h'.2 with ⟨rfl, rfl⟩ | ⟨x', cap', cur2, rfl, hb0', hgx', hnc', hcm', hcs', htk'⟩
      · exact ⟨[], rfl, Own.nil⟩
      · by_cases hxg : x' = g
        · subst hxg
          rw [hgx] at hgx'
          simp only [Option.some.injEq, Obj.cells.injEq, and_true, true_and] at hgx'
          subst hgx'
          have ht : D.take n' = ks'.map Value.string := by rw [hD, ← cellsOf_encS_map']; simpa using htk'
          refine ⟨if i < n' then ks'.set i s else ks', by split <;> simp [hl'], by rw [cellsOf_length encS_len]; split <;> simp [hl'], .inr ⟨x', cap', (D.set i (.string s)).toArray, rfl, hb0', get_setB_same _ _ _ hgl, hnc', hcm', by simp; simpa [hD] using hcs', ?_⟩⟩
          rw [cellsOf_encS_map']
          by_cases hin : i < n'
          · rw [if_pos hin, List.map_set, ← ht]; simp [List.take_set]
          · rw [if_neg hin, ← ht]
            simp [List.take_set_of_le (show n' ≤ i by omega)]
        · exact ⟨ks', hl', h'.fr (M := [g]) ((Fr.refl _ _).setB _ _ (.inl (by simp))) (by intro y hy e; simp at hy; subst hy; simp only [Value.ownBlock, Option.some.injEq] at e; exact hxg e)⟩
end Go.Proofs.Ytenokheiindfkab
