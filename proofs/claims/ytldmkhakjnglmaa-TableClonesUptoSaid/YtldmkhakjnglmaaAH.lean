/- Table: the plain law of TableFinds. -/
import Derived.Test.YtldmkhakjnglmaaAG
set_option linter.unusedVariables false
set_option linter.unusedSimpArgs false
set_option maxRecDepth 10000
namespace Go.Proofs.Ytldmkhakjnglmaa
open Go.VW
theorem list_snoc {α : Type} {P : List α → Prop} (h0 : P []) (h1 : ∀ l a, P l → P (l ++ [a])) : ∀ l, P l := by
  intro l
  have : ∀ r : List α, P r.reverse := fun r => by
    induction r with
    | nil => exact h0
    | cons a r ih => rw [List.reverse_cons]; exact h1 _ _ ih
  have := this l.reverse
  rwa [List.reverse_reverse] at this
def endE (e : Ent) (x : Int) : Int := if e.hi = 4611686018427387904 then x + 1 else e.hi
theorem goodE_facts {e : Ent} (h : goodE e = true) : e.key.size ≤ 32 ∧ e.data.size ≤ 256 ∧ 0 ≤ e.lo ∧ e.lo ≤ 1099511627776 ∧ e.lo < e.hi := by
  unfold goodE at h
  split at h
  · cases h
  · rename_i h1
    split at h
    · cases h
    · rename_i h2
      simp only [Bool.or_eq_true, decide_eq_true_eq, not_or, Bool.and_eq_true] at h h1 h2
      exact ⟨by omega, by omega, by omega, by omega, by omega⟩
theorem meets_plain {e : Ent} {x lo hi : Int} (hg : e.lo < e.hi ∧ 0 ≤ e.lo) (hx : 0 ≤ x) (hx2 : x ≤ 255) : meetsE e x lo hi = decide (max e.lo lo < min (endE e x) hi) := by
  have hk : knownE e x = spOf e.lo (endE e x) := by
    unfold knownE endE
    split
    · rw [show behindI x = x + 1 by unfold behindI; omega]
    · rfl
  unfold meetsE
  rw [hk]
  unfold spMts spMeet
  generalize endE e x = en
  unfold spOf
  by_cases h1 : en ≤ e.lo
  · rw [if_pos h1]
    have e1 : spEmp (0, 0) = true := rfl
    rw [e1]
    simp; omega
  · rw [if_neg h1]
    have e1 : spEmp (e.lo, en) = false := by unfold spEmp; simp; omega
    rw [e1]
    by_cases h2 : hi ≤ lo
    · rw [if_pos h2]
      have e2 : spEmp (0, 0) = true := rfl
      rw [e2]
      simp; omega
    · rw [if_neg h2]
      have e2 : spEmp (lo, hi) = false := by unfold spEmp; simp; omega
      rw [e2]
      simp only
      by_cases h3 : min en hi ≤ max e.lo lo
      · rw [if_pos h3]
        have e3 : spEmp (0, 0) = true := rfl
        rw [e3]
        simp; omega
      · rw [if_neg h3]
        have e3 : spEmp (max e.lo lo, min en hi) = false := by unfold spEmp; simp; omega
        rw [e3]
        simp; omega
/-- What is held of each entry: its key, and that it is good. -/
def EntWF (T : Tab) : Prop := ∀ k, ∀ e ∈ T.row k, e.key = k ∧ goodE e = true
theorem mem_putE {l : Ents} {e x : Ent} (h : x ∈ putE l e) : x = e ∨ x ∈ l := by
  unfold putE insL at h
  rcases List.mem_append.1 h with h | h
  · exact .inr ((delE_sub l e.lo).subset (List.take_subset _ _ h))
  · rcases List.mem_cons.1 h with h | h
    · exact .inl h
    · exact .inr ((delE_sub l e.lo).subset (List.drop_subset _ _ h))
theorem EntWF.putR {T : Tab} (h : EntWF T) (hn : (T.rows.map (·.1)).Nodup) (e : Ent) : EntWF (T.putR e) := by
  unfold Tab.putR
  split
  · rename_i hg
    intro k x hx
    rw [put_row hn] at hx
    split at hx
    · rename_i hk
      rcases mem_putE hx with q | hx
      · rw [q]; exact ⟨hk, hg⟩
      · obtain ⟨a, b⟩ := h _ x hx
        exact ⟨a.trans hk, b⟩
    · exact h k x hx
  · exact h
theorem filter_all {T : Tab} (hw : EntWF T) (k : ByteArray) : ∀ (ks : List ByteArray), ks.Nodup → (k ∈ ks → (allE T ks).filter (fun e => decide (e.key = k)) = T.row k) ∧ (k ∉ ks → (allE T ks).filter (fun e => decide (e.key = k)) = [])
  | [], _ => ⟨fun h => by simp at h, fun _ => rfl⟩
  | a :: ks, hn => by
    rw [List.nodup_cons] at hn
    obtain ⟨ih1, ih2⟩ := filter_all hw k ks hn.2
    show (_ → ((T.row a) ++ allE T ks).filter _ = _) ∧ (_ → ((T.row a) ++ allE T ks).filter _ = _)
    rw [List.filter_append]
    by_cases ha : a = k
    · subst ha
      have h1 : (T.row a).filter (fun e => decide (e.key = a)) = T.row a := by
        rw [List.filter_eq_self]
        intro e he
        exact decide_eq_true (hw _ e he).1
      rw [h1, ih2 hn.1, List.append_nil]
      exact ⟨fun _ => rfl, fun q => absurd (List.mem_cons_self ..) q⟩
    · have h0 : (T.row a).filter (fun e => decide (e.key = k)) = [] := by
        rw [List.filter_eq_nil_iff]
        intro e he
        have := (hw _ e he).1
        simp; rw [this]; exact ha
      rw [h0, List.nil_append]
      refine ⟨fun q => ih1 ?_, fun q => ih2 fun q' => q (List.mem_cons_of_mem _ q')⟩
      rcases List.mem_cons.1 q with rfl | q
      · exact absurd rfl ha
      · exact q
theorem row_none {T : Tab} {k : ByteArray} (h : k ∉ T.rows.map (·.1)) : T.row k = [] := by
  unfold Tab.row
  cases hr : aget T.rows k with
  | none => rfl
  | some v => exact absurd ((mem_keys_aget _ k).2 ⟨v, hr⟩) h
def ltE (a b : Ent) : Prop := ltB a.key b.key ∨ a.key = b.key ∧ a.lo < b.lo
theorem all_sorted {T : Tab} {N : Nat} (hw : EntWF T) (hwf : T.WF N) : ∀ (ks : List ByteArray), ks.Pairwise ltB → (allE T ks).Pairwise ltE
  | [], _ => List.Pairwise.nil
  | a :: ks, hp => by
    rw [List.pairwise_cons] at hp
    show ((T.row a) ++ allE T ks).Pairwise ltE
    rw [List.pairwise_append]
    refine ⟨?_, all_sorted hw hwf ks hp.2, fun x hx y hy => ?_⟩
    · refine List.Pairwise.imp_of_mem (fun {x y} hx hy h => ?_) (hwf.sort a)
      exact .inr ⟨by rw [(hw _ x hx).1, (hw _ y hy).1], h⟩
    · unfold allE at hy
      obtain ⟨b, hb, hy⟩ := List.mem_flatMap.1 hy
      exact .inl (by rw [(hw _ x hx).1, (hw _ y hy).1]; exact hp.1 b hb)
def bstep (k : ByteArray) (x lo hi : Int) (b : Int) (e : Ent) : Int := if e.key = k ∧ max e.lo lo < min (endE e x) hi ∧ b < e.lo then e.lo else b
theorem bstep_filter (k : ByteArray) (x lo hi : Int) : ∀ (l : Ents) (b : Int), l.foldl (bstep k x lo hi) b = (l.filter fun e => decide (e.key = k)).foldl (bstep k x lo hi) b
  | [], b => rfl
  | e :: l, b => by
    rw [List.foldl_cons, List.filter_cons, bstep_filter k x lo hi l]
    by_cases h : e.key = k
    · rw [if_pos (decide_eq_true h), List.foldl_cons]
    · rw [if_neg (by simpa using h)]
      congr 1
      unfold bstep
      rw [if_neg (fun q => h q.1)]
def bestOf (o : Option Ent) : Int := match o with | some e => e.lo | none => -1
theorem best_row {k : ByteArray} {x lo hi : Int} (hx : 0 ≤ x) (hx2 : x ≤ 255) : ∀ l : Ents, SortE l → (∀ e ∈ l, e.key = k ∧ goodE e = true) → l.foldl (bstep k x lo hi) (-1) = bestOf (findE l x lo hi) := by
  apply list_snoc
  · intro _ _; rfl
  · intro l e ih hs hg
    have hsl : SortE l := by unfold SortE at hs; rw [List.pairwise_append] at hs; exact hs.1
    have ihl := ih hsl fun y hy => hg y (List.mem_append_left _ hy)
    obtain ⟨he1, he2⟩ := hg e (by simp)
    obtain ⟨_, _, f0, _, f1⟩ := goodE_facts he2
    rw [List.foldl_append, ihl, List.foldl_cons, List.foldl_nil]
    have hm := meets_plain (e := e) (x := x) (lo := lo) (hi := hi) ⟨f1, f0⟩ hx hx2
    have hlt : bestOf (findE l x lo hi) < e.lo := by
      unfold bestOf
      cases hf : findE l x lo hi with
      | none => simp only; omega
      | some y =>
        simp only
        unfold findE at hf
        have hy : y ∈ l := (List.mem_filter.1 (List.mem_of_getLast? hf)).1
        unfold SortE at hs
        rw [List.pairwise_append] at hs
        exact hs.2.2 y hy e (by simp)
    unfold bstep
    by_cases h : max e.lo lo < min (endE e x) hi
    · rw [if_pos ⟨he1, h, hlt⟩]
      rw [decide_eq_true h] at hm
      unfold findE
      rw [List.filter_append, List.filter_cons, if_pos hm]
      simp [bestOf]
    · rw [if_neg (fun q => h q.2.1)]
      rw [decide_eq_false h] at hm
      unfold findE
      rw [List.filter_append, List.filter_cons, if_neg (by rw [hm]; simp)]
      simp
theorem best_all {T : Tab} {N : Nat} (hw : EntWF T) (hwf : T.WF N) (hn : (T.rows.map (·.1)).Nodup) {k : ByteArray} {x lo hi : Int} (hx : 0 ≤ x) (hx2 : x ≤ 255) : (allE T (keysOf (T.rows.map (·.1)))).foldl (bstep k x lo hi) (-1) = bestOf (findE (T.row k) x lo hi) := by
  have hnk : (keysOf (T.rows.map (·.1))).Nodup := (keysOf_lt hn).imp fun h e => by rw [e] at h; exact ltB_irrefl _ h
  obtain ⟨f1, f2⟩ := filter_all hw k _ hnk
  rw [bstep_filter]
  by_cases hk : k ∈ T.rows.map (·.1)
  · rw [f1 ((keysOf_mem _ _).2 hk)]
    exact best_row hx hx2 _ (hwf.sort k) (hw k)
  · rw [f2 (fun q => hk ((keysOf_mem _ _).1 q)), row_none hk]
    rfl
theorem findE_get {l : Ents} (hs : SortE l) {x lo hi : Int} {e : Ent} (h : findE l x lo hi = some e) : getE l e.lo = some e ∧ hasE l e.lo = true ∧ e ∈ l := by
  unfold findE at h
  have hm : e ∈ l := (List.mem_filter.1 (List.mem_of_getLast? h)).1
  obtain ⟨t, ht⟩ := List.getElem?_of_mem hm
  have hi' : idxE l e.lo = t := by
    have h1 := idxE_lt hs (lo := e.lo) ht
    have h2 : ¬ t < idxE l e.lo := fun q => by have := h1.1 q; omega
    have h3 : ¬ idxE l e.lo < t := fun q => by
      obtain ⟨g1, g2⟩ := List.getElem?_eq_some_iff.1 ht
      obtain ⟨y, hy⟩ : ∃ y, l[idxE l e.lo]? = some y := ⟨l[idxE l e.lo]'(by omega), List.getElem?_eq_getElem (by omega)⟩
      obtain ⟨g3, g4⟩ := List.getElem?_eq_some_iff.1 hy
      have h4 := List.pairwise_iff_getElem.1 hs (idxE l e.lo) t g3 g1 q
      rw [g2, g4] at h4
      exact Nat.lt_irrefl _ ((idxE_lt hs hy).2 h4)
    omega
  have hg : getE l e.lo = some e := by unfold getE; rw [hi', ht]; simp
  refine ⟨hg, ?_, hm⟩
  rw [← getE_has, hg]; rfl
theorem keys_put {T : Tab} (e : Ent) (hn : (T.rows.map (·.1)).Nodup) : ∀ k ∈ (T.put e).rows.map (·.1), k = e.key ∨ k ∈ T.rows.map (·.1) := by
  intro k hk
  have hd : ∀ k ∈ (T.drop e.key e.lo).rows.map (·.1), k = e.key ∨ k ∈ T.rows.map (·.1) := by
    intro k hk
    unfold Tab.drop at hk
    split at hk
    · split at hk
      · simp only at hk
        split at hk
        · rw [keys_adel _ _ hn] at hk
          exact .inr (List.mem_filter.1 hk).1
        · rw [keys_aset] at hk
          split at hk
          · exact .inr hk
          · rcases List.mem_append.1 hk with q | q
            · exact .inr q
            · simp at q; exact .inl q
      · exact .inr hk
    · exact .inr hk
  unfold Tab.put at hk
  simp only at hk
  rw [keys_aset] at hk
  split at hk
  · exact hd k hk
  · rcases List.mem_append.1 hk with q | q
    · exact hd k q
    · simp at q; exact .inl q
theorem len_aset {α : Type} (l : List (ByteArray × α)) (k : ByteArray) (v : α) : (aset l k v).length ≤ l.length + 1 := by
  have := congrArg List.length (keys_aset l k v)
  split at this
  · simp at this; omega
  · simp at this; omega
theorem len_put {T : Tab} (e : Ent) (hn : (T.rows.map (·.1)).Nodup) : (T.put e).rows.length ≤ T.rows.length + 1 := by
  have hd : (T.drop e.key e.lo).rows.length ≤ T.rows.length := by
    unfold Tab.drop
    split
    · rename_i x hx
      split
      · simp only
        split
        · have := congrArg List.length (keys_adel T.rows e.key hn)
          simp only [List.length_map] at this
          rw [this]
          have := List.length_filter_le (fun x => !decide (x = e.key)) (T.rows.map (·.1))
          simpa using this
        · have hk : e.key ∈ T.rows.map (·.1) := by
            apply Classical.byContradiction
            intro q
            rw [row_none q] at hx
            simp at hx
          have := congrArg List.length (keys_aset T.rows e.key (delL (T.row e.key) (idxE (T.row e.key) e.lo)))
          rw [if_pos hk] at this
          simp at this; omega
      · exact Nat.le_refl _
    · exact Nat.le_refl _
  have := len_aset (T.drop e.key e.lo).rows e.key (insL (delE (T.row e.key) e.lo) (idxE (delE (T.row e.key) e.lo) e.lo) e)
  show (aset _ _ _).length ≤ _
  omega
theorem allE_len {T : Tab} {N : Nat} (h : T.WF N) : ∀ ks : List ByteArray, (allE T ks).length ≤ ks.length * N
  | [] => by simp [allE]
  | k :: ks => by
    have := allE_len h ks
    have := h.len k
    show ((T.row k) ++ allE T ks).length ≤ _
    rw [List.length_append, List.length_cons, Nat.add_mul]
    omega
/-- All that a table of i puts is. -/
structure TabI (T : Tab) (i : Nat) : Prop where
  wf : T.WF i
  ent : EntWF T
  key : ∀ k ∈ T.rows.map (·.1), k.size ≤ 32
  len : T.rows.length ≤ i
theorem TabI.new : TabI tF0 0 := ⟨wf0, fun k e he => by simp [tF0, Tab.row, aget] at he, fun k hk => by simp [tF0] at hk, Nat.le_refl _⟩
theorem TabI.putR {T : Tab} {i : Nat} (h : TabI T i) (hn : (T.rows.map (·.1)).Nodup) (e : Ent) : TabI (T.putR e) (i + 1) := by
  refine ⟨h.wf.putR hn e, h.ent.putR hn e, fun k hk => ?_, ?_⟩
  · unfold Tab.putR at hk
    split at hk
    · rename_i hg
      rcases keys_put e hn k hk with rfl | q
      · exact (goodE_facts hg).1
      · exact h.key k q
    · exact h.key k hk
  · unfold Tab.putR
    split
    · have := len_put e hn; have := h.len; omega
    · have := h.len; omega
end Go.Proofs.Ytldmkhakjnglmaa
