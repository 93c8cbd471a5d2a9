/- What a store holds of the commits that it took, to the letter; it reads as the reference. -/
import Derived.Test.YtenokheiindfkaaT7
set_option linter.unusedVariables false
set_option linter.unusedSimpArgs false
set_option maxRecDepth 10000
namespace Go.Proofs.Ytenokheiindfkaa
open Go.VW
structure HistX (st : St) (own : List (List Wr)) : Prop where
  last : st.last = own.length
  chk : ∀ ws ∈ own, chk ws = 0
  rows : ∀ key, st.row key = ⟨keptL st.most (hv own key), decide (st.most < (hv own key).length)⟩
  keys : ∀ k, k ∈ st.rows.map (·.1) ↔ hv own k ≠ []
  nd : (st.rows.map (·.1)).Nodup
theorem HistX.new (n : Int) : HistX (St.new n) [] := ⟨rfl, by simp, fun key => by show (⟨[], false⟩ : Row) = ⟨keptL _ [], decide (_ < 0)⟩; simp [keptL], fun k => by simp [St.new, hv, hist], by simp [St.new]⟩
theorem keys_fold {most : Nat} {n : Int} : ∀ (ws : List Wr) (rows : Rows) (k : ByteArray), k ∈ (ws.foldl (put most n) rows).map (·.1) ↔ k ∈ rows.map (·.1) ∨ ∃ x ∈ ws, x.key = k
  | [], rows, k => by simp
  | x :: ws, rows, k => by
    rw [List.foldl_cons, keys_fold ws]
    unfold put
    rw [keys_aset]
    by_cases hx : x.key ∈ rows.map (·.1)
    · rw [if_pos hx]
      constructor
      · rintro (h | ⟨y, hy, e⟩)
        · exact .inl h
        · exact .inr ⟨y, List.mem_cons_of_mem _ hy, e⟩
      · rintro (h | ⟨y, hy, e⟩)
        · exact .inl h
        · rcases List.mem_cons.1 hy with rfl | hy
          · exact .inl (e ▸ hx)
          · exact .inr ⟨y, hy, e⟩
    · rw [if_neg hx, List.mem_append]
      constructor
      · rintro ((h | h) | ⟨y, hy, e⟩)
        · exact .inl h
        · simp at h; exact .inr ⟨x, by simp, h.symm⟩
        · exact .inr ⟨y, List.mem_cons_of_mem _ hy, e⟩
      · rintro (h | ⟨y, hy, e⟩)
        · exact .inl (.inl h)
        · rcases List.mem_cons.1 hy with rfl | hy
          · exact .inl (.inr (by simp [e]))
          · exact .inr ⟨y, hy, e⟩
theorem nd_fold {most : Nat} {n : Int} : ∀ (ws : List Wr) (rows : Rows), (rows.map (·.1)).Nodup → ((ws.foldl (put most n) rows).map (·.1)).Nodup
  | [], rows, h => h
  | x :: ws, rows, h => by
    rw [List.foldl_cons]
    exact nd_fold ws _ (nodup_aset _ _ _ h)
theorem fnd_some {ws : List Wr} {k : ByteArray} : (∃ x, fnd ws k = some x) ↔ ∃ x ∈ ws, x.key = k := by
  unfold fnd
  constructor
  · rintro ⟨x, hx⟩
    have h1 := List.mem_of_find?_eq_some hx
    have h2 := List.find?_some hx
    exact ⟨x, h1, by simpa using h2⟩
  · rintro ⟨x, hx, e⟩
    cases hf : ws.find? fun x => decide (x.key = k) with
    | some y => exact ⟨y, rfl⟩
    | none =>
      rw [List.find?_eq_none] at hf
      exact absurd e (by simpa using hf x hx)
theorem HistX.commit {st : St} {own : List (List Wr)} (h : HistX st own) (hm1 : 1 ≤ st.most) {ws : List Wr} (hc : Go.Proofs.Ytenokheiindfkaa.chk ws = 0) (hl : st.last < 1099511627776) : HistX (st.commit ws).2 (own ++ [ws]) := by
  have hl' : ¬ 1099511627776 ≤ st.last := by omega
  have e : st.commit ws = ((st.last + 1, 0), ⟨ws.foldl (put st.most (st.last + 1)) st.rows, st.most, st.last + 1⟩) := by simp only [St.commit, hc, ne_eq, not_true_eq_false, if_false, hl']
  rw [e]
  refine ⟨by simp [h.last], fun w hw => ?_, fun key => ?_, fun k => ?_, nd_fold _ _ h.nd⟩
  · rcases List.mem_append.1 hw with hw | hw
    · exact h.chk w hw
    · simp at hw; subst hw; exact hc
  · have hrow : (⟨ws.foldl (put st.most (st.last + 1)) st.rows, st.most, st.last + 1⟩ : St).row key = match fnd ws key with | some x => (st.row key).put st.most (st.last + 1) x | none => st.row key := fold_row key ws st.rows (chk_nodup hc)
    rw [hrow, hv_snoc]
    cases fnd ws key with
    | none => exact h.rows key
    | some x =>
      simp only
      rw [h.rows key, ← h.last]
      obtain ⟨l, hl⟩ : ∃ l, l = hv own key := ⟨_, rfl⟩
      rw [← hl]
      unfold Row.put
      simp only
      have hkl : (keptL st.most l).length = l.length - (l.length - st.most) := by unfold keptL; rw [List.length_drop]
      by_cases hq : st.most ≤ l.length
      · rw [if_pos (by omega), decide_eq_true (by simp; omega)]
        congr 1
        have e1 : (keptL st.most l).length + 1 - st.most = 1 := by omega
        rw [e1]
        unfold keptL
        rw [List.length_append, List.length_cons, List.length_nil]
        rw [← List.drop_append_of_le_length (by omega : l.length - st.most ≤ l.length), List.drop_drop]
        congr 1
        omega
      · rw [if_neg (by omega), decide_eq_false (by omega), decide_eq_false (by simp; omega)]
        congr 1
        unfold keptL
        rw [List.length_append, List.length_cons, List.length_nil]
        rw [show l.length - st.most = 0 by omega, show l.length + (0 + 1) - st.most = 0 by omega]
        rfl
  · rw [keys_fold, hv_snoc, h.keys, ← fnd_some]
    cases hf : fnd ws k with
    | none => simp
    | some x => simp
theorem hv_sorted (key : ByteArray) : ∀ own : List (List Wr), (hv own key).Pairwise fun a b => a.n < b.n := by
  apply list_snoc
  · exact .nil
  · intro own ws ih
    rw [hv_snoc]
    cases fnd ws key with
    | none => exact ih
    | some x =>
      simp only
      rw [List.pairwise_append]
      refine ⟨ih, by simp, fun a ha b hb => ?_⟩
      simp at hb; subst hb
      have := hv_bound own key a ha
      show a.n < (own.length : Int) + 1
      omega
theorem idx_drop {l : List Ver} {c : Int} {d : Nat} (h : ∀ t x, t < d → l[t]? = some x → x.n ≤ c) (hd : d ≤ l.length) : idx l c = d + idx (l.drop d) c := by
  unfold idx
  conv => lhs; rw [← List.take_append_drop d l]
  rw [List.takeWhile_append_of_pos]
  · rw [List.length_append, List.length_take]; omega
  · intro x hx
    obtain ⟨i, hi⟩ := List.getElem?_of_mem hx
    have hil := (List.getElem?_eq_some_iff.1 hi).1
    rw [List.length_take] at hil
    rw [List.getElem?_take, if_pos (by omega)] at hi
    exact decide_eq_true (h i x (by omega) hi)
theorem read_eq {st : St} {own : List (List Wr)} (h : HistX st own) (hm1 : 1 ≤ st.most) (key : ByteArray) (c : Int) : st.read key c = rread st.most own key c := by
  have hall := all_hv key own h.chk
  have hold : st.oldest key = oldL st.most (hv own key) := by
    unfold St.oldest oldL
    rw [h.rows key]
    by_cases hq : st.most < (hv own key).length
    · simp only [hq, decide_true, if_true]
      unfold keptL
      rw [List.head?_drop]
    · simp [hq]
  unfold St.read rread
  rw [hall, h.last, hold]
  by_cases h1 : goodKey key = false ∨ c < 0
  · rw [if_pos h1, if_pos h1]
  rw [if_neg h1, if_neg h1]
  by_cases h2 : (own.length : Int) < c
  · rw [if_pos h2, if_pos h2]
  rw [if_neg h2, if_neg h2]
  by_cases h3 : c < oldL st.most (hv own key)
  · rw [if_pos h3, if_pos h3]
  rw [if_neg h3, if_neg h3]
  congr 1
  rw [loF_prev c _ (hv_sorted key own), hiF_idx, h.rows key]
  obtain ⟨l, hl⟩ : ∃ l, l = hv own key := ⟨_, rfl⟩
  rw [← hl] at h3 ⊢
  have hs : l.Pairwise fun a b => a.n < b.n := by rw [hl]; exact hv_sorted key own
  have hmk : ∀ l', mkFact key l' c = fOf key (prev l' (idx l' c)) l'[idx l' c]? := fun _ => rfl
  rw [hmk]
  simp only
  unfold keptL
  by_cases hq : st.most < l.length
  · obtain ⟨x, hx⟩ : ∃ x, l[l.length - st.most]? = some x := ⟨l[l.length - st.most]'(by omega), List.getElem?_eq_getElem (by omega)⟩
    have hxc : x.n ≤ c := by
      unfold oldL at h3
      rw [if_pos hq, hx] at h3
      simpa using h3
    obtain ⟨g1, g2⟩ := List.getElem?_eq_some_iff.1 hx
    have hid := idx_drop (l := l) (c := c) (d := l.length - st.most) (fun t y ht hy => by
      obtain ⟨g3, g4⟩ := List.getElem?_eq_some_iff.1 hy
      have := List.pairwise_iff_getElem.1 hs t (l.length - st.most) g3 g1 ht
      rw [g2, g4] at this
      omega) (by omega)
    have hpos : 1 ≤ idx (l.drop (l.length - st.most)) c := by
      rw [List.drop_eq_getElem_cons g1, g2]
      unfold idx
      rw [List.takeWhile_cons, decide_eq_true hxc]
      simp
    rw [hid]
    congr 1
    · unfold prev
      rw [if_neg (by omega), if_neg (by omega), List.getElem?_drop]
      congr 1
      omega
    · rw [List.getElem?_drop]
  · rw [show l.length - st.most = 0 by omega]; rfl
theorem pKeys_hv {own : List (List Wr)} (hc : ∀ ws ∈ own, chk ws = 0) (k : ByteArray) : hv own k ≠ [] ↔ k ∈ pKeys (past own) := by
  rw [← all_hv k own hc]
  unfold allP pKeys
  rw [Ne, List.map_eq_nil_iff, List.filter_eq_nil_iff, List.mem_map]
  constructor
  · intro h
    apply Classical.byContradiction
    intro hn
    exact h fun p hp hq => hn ⟨p, hp, by simpa using hq⟩
  · rintro ⟨p, hp, e⟩ h
    exact h p hp (by simpa using e)
theorem past_key {own : List (List Wr)} (hc : ∀ ws ∈ own, chk ws = 0) : ∀ p ∈ past own, goodKey p.2.key = true := by
  intro p hp
  unfold past at hp
  obtain ⟨q, hq, hpq⟩ := List.mem_flatMap.1 hp
  obtain ⟨x, hx, rfl⟩ := List.mem_map.1 hpq
  have hws : q.1 ∈ own := by
    have := List.mem_zipIdx hq
    obtain ⟨_, _, e⟩ := this
    rw [e]; exact List.getElem_mem _
  have h0 := hc q.1 hws
  unfold chk at h0
  split at h0
  · cases h0
  · split at h0
    · rename_i hall
      have := List.all_eq_true.1 hall x hx
      rw [goodWr_eq, Bool.and_eq_true] at this
      exact this.1
    · cases h0
theorem goodKey_size {k : ByteArray} (h : goodKey k = true) : 1 ≤ k.size ∧ k.size ≤ 32 := by
  unfold goodKey at h
  simp only [Bool.and_eq_true, decide_eq_true_eq] at h
  omega
end Go.Proofs.Ytenokheiindfkaa
