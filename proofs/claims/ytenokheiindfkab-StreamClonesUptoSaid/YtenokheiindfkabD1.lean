/- The keys of a record: what is wrong with them, in plain Lean. -/
import Derived.Test.YtenokheiindfkabB3
set_option linter.unusedVariables false
set_option linter.unusedSimpArgs false
namespace Go.Proofs.Ytenokheiindfkab
open Go.Sort Go.VW
theorem sortL_perm (zs : List (List UInt8)) : (sortL zs).Perm zs := List.mergeSort_perm _ _
theorem sortL_sorted (zs : List (List UInt8)) : (sortL zs).Pairwise fun x y => x ≤ y := by
  have := List.pairwise_mergeSort (le := fun x y : List UInt8 => decide (x ≤ y)) (fun a b c h1 h2 => by
    simp only [decide_eq_true_eq] at *
    exact List.le_trans h1 h2) (fun a b => by
    simp only [Bool.or_eq_true, decide_eq_true_eq]
    exact List.le_total a b) zs
  exact this.imp fun h => by simpa using h
theorem compact_lt {zs : List (List UInt8)} (hs : zs.Pairwise fun x y => x ≤ y) : (Lib.compact zs).length < zs.length ↔ ¬ zs.Nodup := by
  constructor
  · intro h hn
    rw [Lib.compact_all zs] at h
    · omega
    · intro j hj
      unfold Lib.keeps
      rw [decide_eq_true_eq]
      by_cases h0 : j = 0
      · exact .inl h0
      · refine .inr fun e => ?_
        rw [getElem!_pos zs.toArray j (by simpa using hj), getElem!_pos zs.toArray (j - 1) (by simp; omega)] at e
        simp only [List.getElem_toArray] at e
        have := (List.pairwise_iff_getElem.1 hn) (j - 1) j (by omega) hj (by omega)
        exact this e.symm
  · intro h
    have h2 : ∃ i j, ∃ (hi : i < zs.length) (hj : j < zs.length), i < j ∧ zs[i] = zs[j] := by
      apply Classical.byContradiction
      intro hc
      apply h
      rw [List.Nodup, List.pairwise_iff_getElem]
      intro i j hi hj hij e
      exact hc ⟨i, j, hi, hj, hij, e⟩
    obtain ⟨i, j, hi, hj, hij, e⟩ := h2
    have hp := List.pairwise_iff_getElem.1 hs
    have hadj : zs[j - 1] = zs[j] := by
      have a1 : zs[j - 1] ≤ zs[j] := hp (j - 1) j (by omega) hj (by omega)
      by_cases hi' : i = j - 1
      · subst hi'; exact e
      · have a2 : zs[i] ≤ zs[j - 1] := hp i (j - 1) hi (by omega) (by omega)
        rw [e] at a2
        exact List.le_antisymm a1 a2
    have hk : Lib.keeps zs.toArray j = false := by
      refine Lib.keeps_neg (by omega) ?_
      rw [getElem!_pos zs.toArray j (by simpa using hj), getElem!_pos zs.toArray (j - 1) (by simp; omega)]
      simp only [List.getElem_toArray]
      exact hadj.symm
    unfold Lib.compact Lib.compactUpTo
    rw [List.length_map]
    have : ((List.range zs.length).filter (Lib.keeps zs.toArray)).length < (List.range zs.length).length := by
      rw [List.length_filter_lt_length_iff_exists]
      exact ⟨j, List.mem_range.2 hj, by simp [hk]⟩
    simpa using this
theorem nodup_bl (ks : List ByteArray) : (ks.map bl).Nodup ↔ ks.Nodup := by
  constructor
  · intro h
    rw [List.Nodup, List.pairwise_map] at h
    exact h.imp fun h e => h (by rw [e])
  · intro h
    rw [List.Nodup, List.pairwise_map]
    exact List.Pairwise.imp (fun h e => h (bl_inj e)) h
theorem dup_iff (ks : List ByteArray) : (Lib.compact (sortL (ks.map bl))).length < ks.length ↔ ¬ ks.Nodup := by
  have h1 := compact_lt (sortL_sorted (ks.map bl))
  rw [(sortL_perm _).length_eq, List.length_map, (sortL_perm _).nodup_iff, nodup_bl] at h1
  exact h1
def badK (k : ByteArray) : Bool := decide (k = ⟨#[]⟩) || decide (32 < k.size)
/-- What is wrong with keys. -/
def chkK (ks : List ByteArray) : Int := if ks.length = 0 ∨ 8 < ks.length then 1 else if ks.any badK then 1 else if ks.Nodup then 0 else 22
theorem chkK_cases (ks : List ByteArray) : chkK ks = 1 ∨ chkK ks = 22 ∨ chkK ks = 0 ∧ 1 ≤ ks.length ∧ ks.length ≤ 8 ∧ ks.any badK = false ∧ ks.Nodup := by
  unfold chkK
  by_cases h1 : ks.length = 0 ∨ 8 < ks.length
  · rw [if_pos h1]; exact .inl rfl
  · by_cases h2 : ks.any badK = true
    · rw [if_neg h1, if_pos h2]; exact .inl rfl
    · by_cases h3 : ks.Nodup
      · rw [if_neg h1, if_neg h2, if_pos h3]
        exact .inr (.inr ⟨rfl, by omega, by omega, by simpa using h2, h3⟩)
      · rw [if_neg h1, if_neg h2, if_neg h3]; simp
theorem chkK_ok {ks : List ByteArray} (h : chkK ks = 0) : 1 ≤ ks.length ∧ ks.length ≤ 8 ∧ ks.Nodup := by
  rcases chkK_cases ks with e | e | ⟨_, h1, h2, _, h4⟩
  · rw [e] at h; cases h
  · rw [e] at h; cases h
  · exact ⟨h1, h2, h4⟩
end Go.Proofs.Ytenokheiindfkab
