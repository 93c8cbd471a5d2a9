/- The plain law of StoreParts: the facts of a key lie one behind the other. -/
import Derived.Test.YtenokheiindfkaaS12
set_option linter.unusedVariables false
set_option linter.unusedSimpArgs false
set_option maxRecDepth 10000
namespace Go.Proofs.Ytenokheiindfkaa
open Go.VW
theorem idx_all {l : List Ver} {c : Int} (h : ∀ x ∈ l, x.n ≤ c) : idx l c = l.length := by
  induction l with
  | nil => rfl
  | cons a l ih =>
    have ha := h a (List.mem_cons_self ..)
    have := ih fun x hx => h x (List.mem_cons_of_mem _ hx)
    simp [idx, ha] at this ⊢; exact this
theorem idx_zero {l : List Ver} {c : Int} (h : ∀ x ∈ l, c < x.n) : idx l c = 0 := by
  cases l with
  | nil => rfl
  | cons a l =>
    have ha := h a (List.mem_cons_self ..)
    have : ¬ a.n ≤ c := by omega
    simp [idx, this]
theorem idx_step {l : List Ver} (hs : l.Pairwise (fun a b => a.n < b.n)) (c : Int) : idx l c = idx l (c - 1) ∨ (idx l c = idx l (c - 1) + 1 ∧ ∃ x, l[idx l (c - 1)]? = some x ∧ x.n = c) := by
  induction l with
  | nil => exact .inl rfl
  | cons a l ih =>
    have hs' := List.pairwise_cons.1 hs
    by_cases h1 : a.n ≤ c - 1
    · have h2 : a.n ≤ c := by omega
      have e1 : idx (a :: l) c = idx l c + 1 := by simp [idx, h2]
      have e2 : idx (a :: l) (c - 1) = idx l (c - 1) + 1 := by simp [idx, h1]
      rw [e1, e2]
      rcases ih hs'.2 with h | ⟨h, x, hx, hn⟩
      · exact .inl (by rw [h])
      · exact .inr ⟨by rw [h], x, by simpa using hx, hn⟩
    · have e2 : idx (a :: l) (c - 1) = 0 := by simp [idx, h1]
      by_cases h2 : a.n ≤ c
      · have e1 : idx (a :: l) c = idx l c + 1 := by simp [idx, h2]
        have e3 : idx l c = 0 := idx_zero fun x hx => by have := hs'.1 x hx; omega
        rw [e1, e2, e3]
        exact .inr ⟨rfl, a, rfl, by omega⟩
      · have e1 : idx (a :: l) c = 0 := by simp [idx, h2]
        rw [e1, e2]; exact .inl rfl
theorem oldest_range {st : St} (hwf : st.WF) (key : ByteArray) : 0 ≤ st.oldest key ∧ st.oldest key ≤ st.last := by
  obtain ⟨hlen, hsort, hb, hne⟩ := hwf.row key
  have hl := hwf.l0
  unfold St.oldest
  cases hd : (st.row key).dropped with
  | false => simp; omega
  | true =>
    cases hr : (st.row key).list with
    | nil => exact absurd hr (hne hd)
    | cons x l =>
      have := hb x (by rw [hr]; exact List.mem_cons_self ..)
      simp; omega
theorem read_in {st : St} {key : ByteArray} {c : Int} (hg : goodKey key = true) (h0 : st.oldest key ≤ c) (h1 : c ≤ st.last) (h2 : 0 ≤ c) : st.read key c = (mkFact key (st.row key).list c, 0) := by
  have a1 : ¬ (goodKey key = false ∨ c < 0) := by simp [hg]; omega
  simp only [St.read, if_neg a1, if_neg (show ¬ st.last < c by omega), if_neg (show ¬ c < st.oldest key by omega)]
theorem parts_first {st : St} (hwf : st.WF) (key : ByteArray) : (mkFact key (st.row key).list (st.oldest key)).lo = st.oldest key := by
  obtain ⟨hlen, hsort, hb, hne⟩ := hwf.row key
  unfold St.oldest
  cases hd : (st.row key).dropped with
  | false =>
    have : idx (st.row key).list 0 = 0 := idx_zero fun x hx => by have := hb x hx; omega
    simp [mkFact, prev, this]
  | true =>
    cases hr : (st.row key).list with
    | nil => exact absurd hr (hne hd)
    | cons x l =>
      rw [hr] at hsort
      have hs' := List.pairwise_cons.1 hsort
      have e3 : idx l x.n = 0 := idx_zero fun y hy => hs'.1 y hy
      have e1 : idx (x :: l) x.n = 1 := by
        have : idx (x :: l) x.n = idx l x.n + 1 := by simp [idx]
        rw [this, e3]
      simp [mkFact, prev, e1]
theorem parts_end {st : St} (hwf : st.WF) (key : ByteArray) : (mkFact key (st.row key).list st.last).hi = 4611686018427387904 := by
  obtain ⟨hlen, hsort, hb, hne⟩ := hwf.row key
  have : idx (st.row key).list st.last = (st.row key).list.length := idx_all fun x hx => (hb x hx).2
  simp [mkFact, this]
theorem mkFact_hi {st : St} (hwf : st.WF) (key : ByteArray) {c : Int} (hc : c ≤ st.last) : c < (mkFact key (st.row key).list c).hi := by
  have := hwf.l1
  unfold mkFact
  simp only
  cases hx : (st.row key).list[idx (st.row key).list c]? with
  | none => simp; omega
  | some x => have := idx_gt_n x hx; simpa using this
theorem mkFact_lo {st : St} (key : ByteArray) {c : Int} (h0 : 0 ≤ c) : (mkFact key (st.row key).list c).lo ≤ c := by
  unfold mkFact prev
  simp only
  split
  · simpa using h0
  · rename_i h
    have hle := idx_le (st.row key).list c
    obtain ⟨y, hy⟩ : ∃ y, (st.row key).list[idx (st.row key).list c - 1]? = some y := ⟨(st.row key).list[idx (st.row key).list c - 1], List.getElem?_eq_getElem (by omega)⟩
    have := idx_le_n (c := c) (idx (st.row key).list c - 1) y (by omega) hy
    rw [hy]; simpa using this
theorem parts_next {st : St} (hwf : st.WF) (key : ByteArray) {c : Int} (h0 : 1 ≤ c) (hc : c ≤ st.last) {f g : Fact} (hf : f = mkFact key (st.row key).list (c - 1)) (hg : g = mkFact key (st.row key).list c) :
    (g = f ∧ c < f.hi) ∨ (g.lo ≠ f.lo ∧ f.hi = c ∧ g.lo = c ∧ c < g.hi) := by
  have hgh := mkFact_hi hwf key hc
  rw [← hg] at hgh
  have hfl := mkFact_lo (st := st) key (c := c - 1) (by omega)
  rw [← hf] at hfl
  rcases idx_step (hwf.row key).2.1 c with h | ⟨h, x, hx, hn⟩
  · have e : g = f := by rw [hf, hg]; unfold mkFact; rw [h]
    exact .inl ⟨e, e ▸ hgh⟩
  · have e1 : f.hi = c := by rw [hf]; simp [mkFact, hx, hn]
    have e2 : g.lo = c := by
      rw [hg]
      simp [mkFact, prev, h, hx, hn]
    exact .inr ⟨by omega, e1, e2, hgh⟩
end Go.Proofs.Ytenokheiindfkaa
