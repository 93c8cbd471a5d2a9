/- Put into a table, walked. -/
import Derived.Test.YtldmkhakjnglmaaA7
set_option linter.unusedVariables false
set_option linter.unusedSimpArgs false
set_option maxRecDepth 10000
namespace Go.Proofs.Ytldmkhakjnglmaa
open Go.VW
def delE (l : Ents) (lo : Int) : Ents := if hasE l lo = true then delL l (idxE l lo) else l
theorem drop_row {T : Tab} {k : ByteArray} {lo : Int} (hn : (T.rows.map (·.1)).Nodup) (k' : ByteArray) : (T.drop k lo).row k' = if k = k' then delE (T.row k) lo else T.row k' := by
  cases hx : (T.row k)[idxE (T.row k) lo]? with
  | none =>
    have hh : hasE (T.row k) lo = false := by unfold hasE; rw [hx]
    have e : T.drop k lo = T := by unfold Tab.drop; rw [hx]
    have e2 : delE (T.row k) lo = T.row k := by unfold delE; rw [hh]; rfl
    rw [e, e2]
    split
    · rename_i h; rw [h]
    · rfl
  | some x =>
    by_cases he : x.lo = lo
    · have hh : hasE (T.row k) lo = true := by unfold hasE; rw [hx]; exact decide_eq_true he
      have e : T.drop k lo = ⟨if (T.row k).length = 1 then adel T.rows k else aset T.rows k (delL (T.row k) (idxE (T.row k) lo)), IntKind.i64.wrap (T.n - 1), IntKind.i64.wrap (T.bytes - costE x)⟩ := by unfold Tab.drop; rw [hx]; simp only [he, if_true]
      have e2 : delE (T.row k) lo = delL (T.row k) (idxE (T.row k) lo) := by unfold delE; rw [hh]; rfl
      rw [e, e2]
      have hil : idxE (T.row k) lo < (T.row k).length := (List.getElem?_eq_some_iff.1 hx).1
      show (aget (if (T.row k).length = 1 then adel T.rows k else aset T.rows k (delL (T.row k) (idxE (T.row k) lo))) k').getD [] = _
      by_cases h1 : (T.row k).length = 1
      · rw [if_pos h1, aget_adel _ hn]
        by_cases hk : k = k'
        · rw [if_pos hk, if_pos hk]
          have : (delL (T.row k) (idxE (T.row k) lo)).length = 0 := by unfold delL; rw [List.length_append, List.length_take, List.length_drop]; omega
          rw [List.eq_nil_of_length_eq_zero this]; rfl
        · rw [if_neg hk, if_neg hk]; rfl
      · rw [if_neg h1, aget_aset]
        by_cases hk : k = k'
        · rw [if_pos hk, if_pos hk]; rfl
        · rw [if_neg hk, if_neg hk]; rfl
    · have hh : hasE (T.row k) lo = false := by unfold hasE; rw [hx]; exact decide_eq_false he
      have e : T.drop k lo = T := by unfold Tab.drop; rw [hx]; simp only [he, if_false]
      have e2 : delE (T.row k) lo = T.row k := by unfold delE; rw [hh]; rfl
      rw [e, e2]
      split
      · rename_i h; rw [h]
      · rfl
theorem TabAt.nd {w : World} {tb : Nat} {S : List Nat} {T : Tab} (h : TabAt w tb S T) : (T.rows.map (·.1)).Nodup := by
  obtain ⟨⟨mb, _, h2⟩, _, _⟩ := h
  cases mb with
  | none => rw [show T.rows = [] from h2]; exact List.nodup_nil
  | some bm => obtain ⟨es, h2⟩ := h2; rw [← h2.keys]; exact h2.map.nd
theorem delL_sub (l : Ents) (i : Nat) : (delL l i).Sublist l := by
  unfold delL
  conv => rhs; rw [← List.take_append_drop i l]
  refine List.Sublist.append (List.Sublist.refl _) ?_
  rw [← List.drop_drop]
  exact List.drop_sublist _ _
theorem delE_sub (l : Ents) (lo : Int) : (delE l lo).Sublist l := by
  unfold delE
  split
  · exact delL_sub l _
  · exact List.Sublist.refl _
theorem Tab.WF.drop {T : Tab} {N : Nat} (h : T.WF N) (hn : (T.rows.map (·.1)).Nodup) (k : ByteArray) (lo : Int) : (T.drop k lo).WF N := by
  refine ⟨fun k' => ?_, fun k' => ?_⟩
  · rw [drop_row hn]
    split
    · exact (h.sort k).sublist (delE_sub _ _)
    · exact h.sort k'
  · rw [drop_row hn]
    split
    · exact Nat.le_trans (delE_sub _ _).length_le (h.len k)
    · exact h.len k'
/-- Where no entry begins at lo, those ahead begin ahead of it, and the others behind it. -/
theorem hasE_false {l : Ents} (hs : SortE l) {lo : Int} (h : hasE l lo = false) : (∀ e ∈ l.take (idxE l lo), e.lo < lo) ∧ ∀ e ∈ l.drop (idxE l lo), lo < e.lo := by
  refine ⟨fun e he => ?_, fun e he => ?_⟩
  · obtain ⟨t, ht⟩ := List.getElem?_of_mem he
    have htl := (List.getElem?_eq_some_iff.1 ht).1
    rw [List.length_take] at htl
    rw [List.getElem?_take, if_pos (by omega)] at ht
    exact (idxE_lt hs ht).1 (by omega)
  · obtain ⟨t, ht⟩ := List.getElem?_of_mem he
    rw [List.getElem?_drop] at ht
    have h1 : ¬ e.lo < lo := fun q => by have := (idxE_lt hs ht).2 q; omega
    cases t with
    | zero =>
      unfold hasE at h
      rw [Nat.add_zero] at ht
      rw [ht] at h
      have : e.lo ≠ lo := by simpa using h
      omega
    | succ t =>
      obtain ⟨x, hx⟩ : ∃ x, l[idxE l lo]? = some x := ⟨l[idxE l lo]'(by have := (List.getElem?_eq_some_iff.1 ht).1; omega), List.getElem?_eq_getElem _⟩
      obtain ⟨g1, g2⟩ := List.getElem?_eq_some_iff.1 hx
      obtain ⟨g3, g4⟩ := List.getElem?_eq_some_iff.1 ht
      have := List.pairwise_iff_getElem.1 hs (idxE l lo) (idxE l lo + (t + 1)) g1 g3 (by omega)
      rw [g2, g4] at this
      have h2 : ¬ x.lo < lo := fun q => by have := (idxE_lt hs hx).2 q; omega
      omega
theorem insL_sort {l : Ents} (hs : SortE l) {e : Ent} (h : hasE l e.lo = false) : SortE (insL l (idxE l e.lo) e) := by
  obtain ⟨h1, h2⟩ := hasE_false hs h
  unfold SortE insL
  rw [List.pairwise_append, List.pairwise_cons]
  refine ⟨hs.sublist (List.take_sublist _ _), ⟨fun x hx => h2 x hx, hs.sublist (List.drop_sublist _ _)⟩, fun a ha b hb => ?_⟩
  rcases List.mem_cons.1 hb with rfl | hb
  · exact h1 a ha
  · have := h1 a ha
    have := h2 b hb
    omega
theorem delE_has {l : Ents} (hs : SortE l) (lo : Int) : hasE (delE l lo) lo = false := by
  have hsd : SortE (delE l lo) := hs.sublist (delE_sub _ _)
  cases hh : hasE (delE l lo) lo with
  | false => rfl
  | true =>
    exfalso
    obtain ⟨x, hx, hxl⟩ : ∃ x, (delE l lo)[idxE (delE l lo) lo]? = some x ∧ x.lo = lo := by
      unfold hasE at hh
      cases hx : (delE l lo)[idxE (delE l lo) lo]? with
      | none => rw [hx] at hh; cases hh
      | some x => rw [hx] at hh; exact ⟨x, rfl, by simpa using hh⟩
    have hm := List.mem_of_getElem? hx
    unfold delE at hm
    split at hm
    · rename_i hq
      unfold hasE at hq
      cases hy : l[idxE l lo]? with
      | none => rw [hy] at hq; cases hq
      | some y =>
        rw [hy] at hq
        have hyl : y.lo = lo := by simpa using hq
        obtain ⟨g1, g2⟩ := List.getElem?_eq_some_iff.1 hy
        unfold delL at hm
        rcases List.mem_append.1 hm with hm | hm
        · obtain ⟨t, ht⟩ := List.getElem?_of_mem hm
          have htl := (List.getElem?_eq_some_iff.1 ht).1
          rw [List.length_take] at htl
          rw [List.getElem?_take, if_pos (by omega)] at ht
          have := (idxE_lt hs (lo := lo) ht).1 (by omega)
          omega
        · obtain ⟨t, ht⟩ := List.getElem?_of_mem hm
          rw [List.getElem?_drop] at ht
          obtain ⟨g3, g4⟩ := List.getElem?_eq_some_iff.1 ht
          have := List.pairwise_iff_getElem.1 hs (idxE l lo) (idxE l lo + 1 + t) g1 g3 (by omega)
          rw [g2, g4] at this
          omega
    · rename_i hq
      obtain ⟨t, ht⟩ := List.getElem?_of_mem hm
      obtain ⟨p1, p2⟩ := hasE_false hs (by simpa using hq)
      have : x ∈ l.take (idxE l lo) ++ l.drop (idxE l lo) := by rw [List.take_append_drop]; exact hm
      rcases List.mem_append.1 this with q | q
      · have := p1 x q; omega
      · have := p2 x q; omega
def Tab.put (T : Tab) (e : Ent) : Tab := ⟨aset (T.drop e.key e.lo).rows e.key (insL (delE (T.row e.key) e.lo) (idxE (delE (T.row e.key) e.lo) e.lo) e), IntKind.i64.wrap ((T.drop e.key e.lo).n + 1), IntKind.i64.wrap ((T.drop e.key e.lo).bytes + costE e)⟩
def Tab.putR (T : Tab) (e : Ent) : Tab := if goodE e = true then T.put e else T
def putE (l : Ents) (e : Ent) : Ents := insL (delE l e.lo) (idxE (delE l e.lo) e.lo) e
theorem put_row {T : Tab} {e : Ent} (hn : (T.rows.map (·.1)).Nodup) (k' : ByteArray) : (T.put e).row k' = if e.key = k' then putE (T.row e.key) e else T.row k' := by
  show (aget (aset (T.drop e.key e.lo).rows e.key _) k').getD [] = _
  rw [aget_aset]
  by_cases hk : e.key = k'
  · rw [if_pos hk, if_pos hk]; rfl
  · rw [if_neg hk, if_neg hk]
    have := drop_row (k := e.key) (lo := e.lo) hn k'
    rw [if_neg hk] at this
    exact this
theorem putE_sort {l : Ents} (hs : SortE l) (e : Ent) : SortE (putE l e) := insL_sort (hs.sublist (delE_sub _ _)) (delE_has hs e.lo)
theorem insL_len (l : Ents) (i : Nat) (e : Ent) : (insL l i e).length = l.length + 1 := by
  unfold insL
  rw [List.length_append, List.length_cons, List.length_take, List.length_drop]
  omega
theorem Tab.WF.put {T : Tab} {N : Nat} (h : T.WF N) (hn : (T.rows.map (·.1)).Nodup) (e : Ent) : (T.put e).WF (N + 1) := by
  refine ⟨fun k' => ?_, fun k' => ?_⟩
  · rw [put_row hn]
    split
    · exact putE_sort (h.sort _) e
    · exact h.sort k'
  · rw [put_row hn]
    split
    · unfold putE
      rw [insL_len]
      have := (delE_sub (T.row e.key) e.lo).length_le
      have := h.len e.key
      omega
    · have := h.len k'; omega
theorem Tab.WF.mono {T : Tab} {N M : Nat} (h : T.WF N) (hm : N ≤ M) : T.WF M := ⟨h.sort, fun k => Nat.le_trans (h.len k) hm⟩
theorem Tab.WF.putR {T : Tab} {N : Nat} (h : T.WF N) (hn : (T.rows.map (·.1)).Nodup) (e : Ent) : (T.putR e).WF (N + 1) := by
  unfold Tab.putR
  split
  · exact h.put hn e
  · exact h.mono (by omega)
end Go.Proofs.Ytldmkhakjnglmaa
