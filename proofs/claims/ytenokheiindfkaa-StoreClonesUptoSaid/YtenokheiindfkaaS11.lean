/- The plain law of StoreSound: what a store holds, of the commits that it took. -/
import Derived.Test.YtenokheiindfkaaS10
set_option linter.unusedVariables false
set_option linter.unusedSimpArgs false
set_option maxRecDepth 10000
namespace Go.Proofs.Ytenokheiindfkaa
open Go.VW
def fnd (ws : List Wr) (key : ByteArray) : Option Wr := ws.find? fun x => decide (x.key = key)
def hstep (key : ByteArray) (p : Int × List Ver) (ws : List Wr) : Int × List Ver := (p.1 + 1, match fnd ws key with | some x => p.2 ++ [verOf (p.1 + 1) x] | none => p.2)
def hist (own : List (List Wr)) (key : ByteArray) : Int × List Ver := own.foldl (hstep key) (0, [])
def hv (own : List (List Wr)) (key : ByteArray) : List Ver := (hist own key).2
theorem hfold (key : ByteArray) : ∀ (l : List (List Wr)) (p : Int) (H : List Ver), ∃ rest, l.foldl (hstep key) (p, H) = (p + l.length, H ++ rest) ∧ ∀ x ∈ rest, p < x.n ∧ x.n ≤ p + l.length
  | [], p, H => ⟨[], by simp, by simp⟩
  | ws :: l, p, H => by
    simp only [List.foldl_cons, hstep]
    cases hf : fnd ws key with
    | none =>
      obtain ⟨rest, h1, h2⟩ := hfold key l (p + 1) H
      refine ⟨rest, ?_, fun x hx => ?_⟩
      · rw [h1]; simp; omega
      · have := h2 x hx
        simp only [List.length_cons]; omega
    | some y =>
      obtain ⟨rest, h1, h2⟩ := hfold key l (p + 1) (H ++ [verOf (p + 1) y])
      refine ⟨verOf (p + 1) y :: rest, ?_, fun x hx => ?_⟩
      · simp only [h1]; simp; omega
      · simp only [List.length_cons]
        rcases List.mem_cons.1 hx with rfl | hx
        · show p < p + 1 ∧ p + 1 ≤ _; omega
        · have := h2 x hx; omega
theorem hist_len (own : List (List Wr)) (key : ByteArray) : (hist own key).1 = own.length := by
  obtain ⟨rest, h, _⟩ := hfold key own 0 []
  unfold hist; rw [h]; simp
theorem hv_bound (own : List (List Wr)) (key : ByteArray) : ∀ x ∈ hv own key, 0 < x.n ∧ x.n ≤ own.length := by
  obtain ⟨rest, h, h2⟩ := hfold key own 0 []
  unfold hv hist; rw [h]
  intro x hx
  have := h2 x (by simpa using hx)
  omega
theorem hv_split (own : List (List Wr)) (key : ByteArray) (i : Nat) (hi : i ≤ own.length) : ∃ rest, hv own key = hv (own.take i) key ++ rest ∧ (∀ x ∈ rest, (i : Int) < x.n) ∧ ∀ x ∈ hv (own.take i) key, x.n ≤ (i : Int) := by
  have hl : (own.take i).length = i := by simp; omega
  obtain ⟨rest, h, h2⟩ := hfold key (own.drop i) (hist (own.take i) key).1 (hist (own.take i) key).2
  have e : hist own key = (own.drop i).foldl (hstep key) (hist (own.take i) key) := by
    unfold hist
    rw [← List.foldl_append, List.take_append_drop]
  have hlen := hist_len (own.take i) key
  rw [hl] at hlen
  refine ⟨rest, ?_, fun x hx => ?_, fun x hx => ?_⟩
  · unfold hv
    rw [e]
    have : hist (own.take i) key = ((hist (own.take i) key).1, (hist (own.take i) key).2) := rfl
    rw [this, h]
  · have := h2 x hx; omega
  · have := hv_bound (own.take i) key x hx; omega
theorem hv_snoc (own : List (List Wr)) (ws : List Wr) (key : ByteArray) : hv (own ++ [ws]) key = match fnd ws key with | some x => hv own key ++ [verOf ((own.length : Int) + 1) x] | none => hv own key := by
  unfold hv
  have : hist (own ++ [ws]) key = hstep key (hist own key) ws := by unfold hist; rw [List.foldl_append]; rfl
  rw [this]
  unfold hstep
  rw [hist_len]
def valO : Option Ver → Bool × ByteArray
  | some v => (v.has, v.data)
  | none => (false, ⟨#[]⟩)
theorem atL_find {ws : List Wr} {key : ByteArray} (hn : (ws.map (·.key)).Nodup) (v : Bool × ByteArray) : atL key v ws = match fnd ws key with | some x => (x.has, x.data) | none => v := by
  unfold atL fnd
  induction ws generalizing v with
  | nil => rfl
  | cons x ws ih =>
    simp only [List.map_cons, List.nodup_cons] at hn
    simp only [List.foldl_cons, List.find?_cons]
    by_cases hk : x.key = key
    · simp only [hk, decide_true, atW, if_true]
      have hno : ∀ (l : List Wr) (u : Bool × ByteArray), (∀ y ∈ l, y.key ≠ key) → l.foldl (atW key) u = u := by
        intro l
        induction l with
        | nil => intro u _; rfl
        | cons y l ihl =>
          intro u hy
          simp only [List.foldl_cons, atW, hy y (by simp), if_false]
          exact ihl u fun z hz => hy z (List.mem_cons_of_mem _ hz)
      exact hno ws _ fun y hy e => hn.1 (List.mem_map.2 ⟨y, hy, by rw [e, hk]⟩)
    · simp only [hk, decide_false, atW, if_false]
      exact ih hn.2 v
theorem at_hv {own : List (List Wr)} (hc : ∀ ws ∈ own, chk ws = 0) (key : ByteArray) : ∀ i, i ≤ own.length → atP own key i = valO (hv (own.take i) key).getLast?
  | 0, _ => rfl
  | i + 1, hi => by
    obtain ⟨ws, hws⟩ : ∃ ws, own[i]? = some ws := ⟨own[i], List.getElem?_eq_getElem hi⟩
    have ht : own.take (i + 1) = own.take i ++ [ws] := by rw [List.take_add_one, hws]; rfl
    have hat : atP own key (i + 1) = atL key (atP own key i) ws := by
      unfold atP
      rw [ht, List.foldl_append]; rfl
    rw [hat, atL_find (chk_nodup (hc ws (List.mem_of_getElem? hws))), ht, hv_snoc, at_hv hc key i (by omega)]
    cases fnd ws key with
    | none => rfl
    | some x => simp [valO]
/-- What a store holds of the commits own. -/
structure Hist (st : St) (own : List (List Wr)) : Prop where
  last : st.last = own.length
  chk : ∀ ws ∈ own, chk ws = 0
  rows : ∀ key, ∃ d, d ≤ (hv own key).length ∧ (st.row key).list = (hv own key).drop d ∧ ((st.row key).dropped = false → d = 0)
theorem fold_row {most : Nat} {n : Int} (key : ByteArray) : ∀ (ws : List Wr) (rows : Rows), (ws.map (·.key)).Nodup →
    (aget (ws.foldl (put most n) rows) key).getD ⟨[], false⟩ = match fnd ws key with | some x => ((aget rows key).getD ⟨[], false⟩).put most n x | none => (aget rows key).getD ⟨[], false⟩
  | [], rows, _ => rfl
  | x :: ws, rows, hn => by
    simp only [List.map_cons, List.nodup_cons] at hn
    rw [List.foldl_cons, fold_row key ws _ hn.2]
    unfold fnd put
    rw [List.find?_cons, aget_aset]
    by_cases hk : x.key = key
    · have : ws.find? (fun y => decide (y.key = key)) = none := by
        rw [List.find?_eq_none]
        intro y hy
        simp only [decide_eq_true_eq]
        exact fun e => hn.1 (List.mem_map.2 ⟨y, hy, by rw [e, hk]⟩)
      rw [this]
      simp [hk]
    · simp [hk]
theorem Hist.commit {st : St} {own : List (List Wr)} (h : Hist st own) {ws : List Wr} (he : (st.commit ws).1.2 = 0) : Hist (st.commit ws).2 (own ++ [ws]) := by
  have hc : Go.Proofs.Ytenokheiindfkaa.chk ws = 0 := by
    by_cases hc : Go.Proofs.Ytenokheiindfkaa.chk ws = 0
    · exact hc
    · simp [St.commit, hc] at he
  have hl : ¬ 1099511627776 ≤ st.last := fun hl => by simp [St.commit, hc, hl] at he
  have e : st.commit ws = ((st.last + 1, 0), ⟨ws.foldl (put st.most (st.last + 1)) st.rows, st.most, st.last + 1⟩) := by simp only [St.commit, hc, ne_eq, not_true_eq_false, if_false, hl]
  rw [e]
  refine ⟨by simp [h.last], fun w hw => ?_, fun key => ?_⟩
  · rcases List.mem_append.1 hw with hw | hw
    · exact h.chk w hw
    · simp at hw; subst hw; exact hc
  · obtain ⟨d, hd, hr, hdr⟩ := h.rows key
    have hrow : (⟨ws.foldl (put st.most (st.last + 1)) st.rows, st.most, st.last + 1⟩ : St).row key = match fnd ws key with | some x => (st.row key).put st.most (st.last + 1) x | none => st.row key := fold_row key ws st.rows (chk_nodup hc)
    rw [hrow, hv_snoc]
    cases fnd ws key with
    | none => exact ⟨d, hd, hr, hdr⟩
    | some x =>
      simp only
      rw [← h.last]
      have happ : (st.row key).list ++ [verOf (st.last + 1) x] = (hv own key ++ [verOf (st.last + 1) x]).drop d := by
        rw [List.drop_append_of_le_length hd, hr]
      unfold Row.put
      split
      · refine ⟨d + ((st.row key).list.length + 1 - st.most), ?_, ?_, by simp⟩
        · have : (st.row key).list.length = (hv own key).length - d := by rw [hr]; simp
          simp; omega
        · simp only
          rw [happ, List.drop_drop]
      · exact ⟨d, by simp; omega, happ, hdr⟩
theorem Hist.new (n : Int) : Hist (St.new n) [] := ⟨rfl, by simp, fun key => ⟨0, Nat.le_refl _, rfl, fun _ => rfl⟩⟩
theorem Hist.done {st : St} {own : List (List Wr)} : ∀ (ls : List (List Wr)) (s : St × List (List Wr)), Hist s.1 s.2 → s.1.WF → Hist (ls.foldl step s).1 (ls.foldl step s).2 ∧ (ls.foldl step s).1.WF
  | [], s, h, hw => ⟨h, hw⟩
  | ws :: ls, s, h, hw => by
    rw [List.foldl_cons]
    refine Hist.done (st := st) (own := own) ls _ ?_ ?_
    · unfold step
      split
      · rename_i he; exact h.commit he
      · exact h
    · unfold step
      split
      · exact hw.commit ws
      · exact hw
end Go.Proofs.Ytenokheiindfkaa
