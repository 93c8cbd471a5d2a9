/- The plain law of StoreSound: a fact that is read. -/
import Derived.Test.YtenokheiindfkaaS11
set_option linter.unusedVariables false
set_option linter.unusedSimpArgs false
set_option maxRecDepth 10000
namespace Go.Proofs.Ytenokheiindfkaa
open Go.VW
theorem idx_le_n {l : List Ver} {c : Int} : ∀ (t : Nat) (x : Ver), t < idx l c → l[t]? = some x → x.n ≤ c := by
  induction l with
  | nil => intro t x ht hx; simp at hx
  | cons a l ih =>
    intro t x ht hx
    by_cases ha : a.n ≤ c
    · cases t with
      | zero => simp at hx; subst hx; exact ha
      | succ t => exact ih t x (by simp [idx, ha] at ht ⊢; omega) (by simpa using hx)
    · simp [idx, ha] at ht
theorem idx_gt_n {l : List Ver} {c : Int} : ∀ (x : Ver), l[idx l c]? = some x → c < x.n := by
  induction l with
  | nil => intro x hx; simp at hx
  | cons a l ih =>
    intro x hx
    by_cases ha : a.n ≤ c
    · exact ih x (by simpa [idx, ha] using hx)
    · have : idx (a :: l) c = 0 := by simp [idx, ha]
      rw [this] at hx
      simp at hx; subst hx; omega
theorem read_ok {st : St} {key : ByteArray} {c : Int} (he : (st.read key c).2 = 0) : goodKey key = true ∧ 0 ≤ c ∧ c ≤ st.last ∧ st.oldest key ≤ c ∧ (st.read key c).1 = mkFact key (st.row key).list c := by
  unfold St.read at he ⊢
  split at he
  · simp at he
  · rename_i h1
    split at he
    · simp at he
    · rename_i h2
      split at he
      · simp at he
      · rename_i h3
        rw [if_neg h1, if_neg h2, if_neg h3]
        simp only [not_or] at h1
        refine ⟨by simpa using h1.1, by omega, by omega, by omega, rfl⟩
theorem read_hist {st : St} {own : List (List Wr)} {key : ByteArray} {c : Int} (h : Hist st own) (hwf : st.WF) (he : (st.read key c).2 = 0) {f : Fact} (hf : f = (st.read key c).1) :
    f.key = key ∧ 0 ≤ f.lo ∧ f.lo ≤ c ∧ c < f.hi ∧ (f.hi = 4611686018427387904 ∨ f.hi ≤ own.length) ∧ f.hi ≤ 4611686018427387904 ∧ ∀ i : Nat, f.lo ≤ i → (i : Int) < f.hi → i ≤ own.length → atP own key i = (f.has, f.data) := by
  obtain ⟨hg, hc0, hcl, hold, hm⟩ := read_ok he
  rw [hm] at hf
  obtain ⟨d, hd, hr, hdr⟩ := h.rows key
  obtain ⟨hlen, hsort, hb, hne⟩ := hwf.row key
  have hl1 := hwf.l1
  obtain ⟨j, hj⟩ : ∃ j, j = idx (st.row key).list c := ⟨_, rfl⟩
  have hjle := idx_le (st.row key).list c
  rw [← hj] at hjle
  subst hf
  unfold mkFact
  simp only [← hj]
  have hlast := h.last
  have hd0 : j = 0 → d = 0 := by
    intro h0
    cases hdrop : (st.row key).dropped with
    | false => exact hdr hdrop
    | true =>
      exfalso
      have hne' := hne hdrop
      cases hl : (st.row key).list with
      | nil => exact hne' hl
      | cons x l =>
        have : (st.row key).list[idx (st.row key).list c]? = some x := by rw [← hj, h0, hl]; rfl
        have h1 := idx_gt_n x this
        have h2 : st.oldest key = x.n := by simp [St.oldest, hdrop, hl]
        omega
  have hget : ∀ t, (st.row key).list[t]? = (hv own key)[d + t]? := fun t => by rw [hr, List.getElem?_drop]
  have hhi : (((st.row key).list[j]?.map (·.n)).getD 4611686018427387904 = 4611686018427387904 ∧ (st.row key).list[j]? = none) ∨ ∃ y, (st.row key).list[j]? = some y ∧ ((st.row key).list[j]?.map (·.n)).getD 4611686018427387904 = y.n ∧ y.n ≤ own.length ∧ c < y.n := by
    cases hy : (st.row key).list[j]? with
    | none => exact .inl (by simp)
    | some y =>
      refine .inr ⟨y, by simp, by simp, ?_, idx_gt_n y (by rw [← hj]; exact hy)⟩
      have := hb y (List.mem_of_getElem? hy); omega
  have hlo : (((prev (st.row key).list j).map (·.n)).getD 0 = 0 ∧ prev (st.row key).list j = none ∧ j = 0) ∨ ∃ y, prev (st.row key).list j = some y ∧ (st.row key).list[j - 1]? = some y ∧ 0 < j ∧ y.n ≤ c ∧ 1 ≤ y.n := by
    unfold prev
    by_cases h0 : j = 0
    · exact .inl ⟨by simp [h0], by simp [h0], h0⟩
    · obtain ⟨y, hy⟩ : ∃ y, (st.row key).list[j - 1]? = some y := ⟨_, List.getElem?_eq_getElem (by omega)⟩
      refine .inr ⟨y, by rw [if_neg h0, hy], hy, by omega, idx_le_n (j - 1) y (by omega) hy, (hb y (List.mem_of_getElem? hy)).1⟩
  refine ⟨trivial, ?_, ?_, ?_, ?_, ?_, ?_⟩
  · rcases hlo with ⟨h1, _⟩ | ⟨y, h1, _, _, _, h2⟩
    · rw [h1]; exact Int.le_refl _
    · simp only [h1, Option.map_some, Option.getD_some]; omega
  · rcases hlo with ⟨h1, _⟩ | ⟨y, h1, _, _, h2, _⟩
    · rw [h1]; exact hc0
    · simp only [h1, Option.map_some, Option.getD_some]; omega
  · rcases hhi with ⟨h1, _⟩ | ⟨y, _, h1, _, h2⟩ <;> rw [h1] <;> omega
  · rcases hhi with ⟨h1, _⟩ | ⟨y, _, h1, h2, _⟩
    · exact .inl h1
    · right; rw [h1]; exact h2
  · rcases hhi with ⟨h1, _⟩ | ⟨y, _, h1, h2, _⟩ <;> rw [h1] <;> omega
  · intro i hi1 hi2 hi3
    rw [at_hv h.chk key i hi3]
    obtain ⟨rest, hsp, hrest, hA⟩ := hv_split own key i hi3
    obtain ⟨A, hAe⟩ : ∃ A, A = hv (own.take i) key := ⟨_, rfl⟩
    rw [← hAe] at hsp hA ⊢
    -- nothing of A lies at or behind d + j
    have hup : A.length ≤ d + j := by
      refine Nat.le_of_not_lt fun hlt => ?_
      have hx : (hv own key)[d + j]? = some A[d + j] := by rw [hsp, List.getElem?_append_left hlt, List.getElem?_eq_getElem hlt]
      rw [← hget] at hx
      have h1 := hA A[d + j] (List.getElem_mem hlt)
      rcases hhi with ⟨_, h2⟩ | ⟨y, h2, h3, _⟩
      · rw [h2] at hx; cases hx
      · rw [h3] at hi2
        rw [h2] at hx
        cases hx
        omega
    rcases hlo with ⟨h1, h2, h3⟩ | ⟨y, h1, h2, h3, h4, h5⟩
    · have h0 := hd0 h3
      have : A = [] := List.eq_nil_of_length_eq_zero (by omega)
      rw [this, h2]; rfl
    · rw [h1] at hi1 ⊢
      simp only [Option.map_some, Option.getD_some] at hi1 ⊢
      have hy : (hv own key)[d + (j - 1)]? = some y := by rw [← hget]; exact h2
      have hlow : d + (j - 1) < A.length := by
        refine Nat.lt_of_not_le fun hle => ?_
        rw [hsp, List.getElem?_append_right hle] at hy
        have := hrest y (List.mem_of_getElem? hy)
        omega
      have hlenA : A.length = d + j := by omega
      have : A.getLast? = some y := by
        rw [List.getLast?_eq_getElem?, hlenA]
        rw [hsp, List.getElem?_append_left hlow] at hy
        have e : d + j - 1 = d + (j - 1) := by omega
        rw [e]; exact hy
      rw [this]; rfl
end Go.Proofs.Ytenokheiindfkaa
