/- Table and reference: the plain laws. -/
import Derived.Test.YtldmkhakjnglmaaAH
import Derived.Test.YtldmkhakjnglmaaZ5
set_option linter.unusedVariables false
set_option linter.unusedSimpArgs false
set_option maxRecDepth 10000
namespace Go.Proofs.Ytldmkhakjnglmaa
open Go.VW
theorem lts_eq' (k l : ByteArray) : Op.bytesLess k.toList l.toList = true ↔ ltB k l := by
  rw [bytesLess_eq, show k.toList = bl k from by rw [ByteArray.toList_eq]; rfl, show l.toList = bl l from by rw [ByteArray.toList_eq]; rfl, decide_eq_true_eq]; rfl
def costN (e : Ent) : Nat := 32 + e.key.size + e.data.size
def sumN (L : Ents) : Nat := (L.map costN).sum
theorem costN_le {e : Ent} (h : goodE e = true) : costN e ≤ 320 := by
  obtain ⟨h1, h2, _⟩ := goodE_facts h
  unfold costN; omega
theorem costE_good {e : Ent} (h : goodE e = true) : costE e = (costN e : Int) := by
  obtain ⟨h1, h2, _⟩ := goodE_facts h
  unfold costE costN
  rw [wrap64 (a := 32 + (e.key.size : Int)) (by omega) (by omega), wrap64 (by omega) (by omega)]
  omega
theorem sumN_app (a b : Ents) : sumN (a ++ b) = sumN a + sumN b := by unfold sumN; rw [List.map_append, List.sum_append]
theorem sumN_le : ∀ (L : Ents), (∀ e ∈ L, goodE e = true) → sumN L ≤ 320 * L.length
  | [], _ => Nat.zero_le _
  | e :: L, h => by
    have h1 := sumN_le L fun x hx => h x (List.mem_cons_of_mem _ hx)
    have h2 := costN_le (h e (List.mem_cons_self ..))
    show costN e + sumN L ≤ _
    rw [List.length_cons]; omega
theorem sumE_eq : ∀ (L : Ents), (∀ e ∈ L, goodE e = true) → L.length ≤ 1000000000 → sumE L = (sumN L : Int) := by
  apply list_snoc
  · intro _ _; rfl
  · intro L e ih hg hl
    have h1 := ih (fun x hx => hg x (List.mem_append_left _ hx)) (by simp at hl; omega)
    have h2 := hg e (by simp)
    have h3 := sumN_le (L ++ [e]) hg
    have h4 : sumE (L ++ [e]) = IntKind.i64.wrap (sumE L + costE e) := by unfold sumE; rw [List.foldl_append]; rfl
    have h5 : sumN (L ++ [e]) = sumN L + costN e := by rw [sumN_app]; rfl
    rw [h4, h1, costE_good h2, wrap64 (by omega) (by omega)]
    omega
theorem sumN_filter (p : Ent → Bool) : ∀ L : Ents, sumN L = sumN (L.filter p) + sumN (L.filter fun e => !p e)
  | [] => rfl
  | e :: L => by
    have ih := sumN_filter p L
    rw [List.filter_cons, List.filter_cons]
    cases h : p e with
    | true => simp only [if_true, Bool.not_true, Bool.false_eq_true, if_false]; show costN e + sumN L = costN e + sumN (L.filter p) + _; omega
    | false => simp only [if_true, Bool.not_false, Bool.false_eq_true, if_false]; show costN e + sumN L = sumN (L.filter p) + (costN e + sumN (L.filter fun e => !p e)); omega
theorem len_filter {α : Type} (p : α → Bool) : ∀ L : List α, L.length = (L.filter p).length + (L.filter fun e => !p e).length
  | [] => rfl
  | e :: L => by
    have ih := len_filter p L
    rw [List.filter_cons, List.filter_cons]
    cases h : p e with
    | true => simp only [if_true, Bool.not_true, Bool.false_eq_true, if_false, List.length_cons]; omega
    | false => simp only [if_true, Bool.not_false, Bool.false_eq_true, if_false, List.length_cons]; omega
theorem idx_split {r : Ents} (hs : SortE r) (lo : Int) : (∀ e ∈ r.take (idxE r lo), e.lo < lo) ∧ (∀ e ∈ r.drop (idxE r lo), lo ≤ e.lo) ∧ ∀ e ∈ r.drop (idxE r lo + 1), lo < e.lo := by
  refine ⟨fun e he => ?_, fun e he => ?_, fun e he => ?_⟩
  · obtain ⟨t, ht⟩ := List.getElem?_of_mem he
    have htl := (List.getElem?_eq_some_iff.1 ht).1
    rw [List.length_take] at htl
    rw [List.getElem?_take, if_pos (by omega)] at ht
    exact (idxE_lt hs ht).1 (by omega)
  · obtain ⟨t, ht⟩ := List.getElem?_of_mem he
    rw [List.getElem?_drop] at ht
    have h1 : ¬ e.lo < lo := fun q => by have := (idxE_lt hs ht).2 q; omega
    omega
  · obtain ⟨t, ht⟩ := List.getElem?_of_mem he
    rw [List.getElem?_drop] at ht
    obtain ⟨g3, g4⟩ := List.getElem?_eq_some_iff.1 ht
    have hx : r[idxE r lo]? = some (r[idxE r lo]'(by omega)) := List.getElem?_eq_getElem _
    have h2 := List.pairwise_iff_getElem.1 hs (idxE r lo) (idxE r lo + 1 + t) (by omega) g3 (by omega)
    rw [g4] at h2
    have h1 : ¬ (r[idxE r lo]'(by omega)).lo < lo := fun q => by have := (idxE_lt hs hx).2 q; omega
    omega
theorem filter_none {α : Type} {p : α → Bool} {l : List α} (h : ∀ e ∈ l, p e = false) : l.filter p = [] := List.filter_eq_nil_iff.2 fun a ha => by rw [h a ha]; simp
theorem filter_id {α : Type} {p : α → Bool} {l : List α} (h : ∀ e ∈ l, p e = true) : l.filter p = l := List.filter_eq_self.2 h
theorem filt_has {r : Ents} (hs : SortE r) (lo : Int) : r.filter (fun e => decide (e.lo = lo)) = (getE r lo).toList := by
  obtain ⟨h1, h2, h3⟩ := idx_split hs lo
  conv => lhs; rw [← List.take_append_drop (idxE r lo) r]
  rw [List.filter_append, filter_none (fun e he => decide_eq_false (by have := h1 e he; omega)), List.nil_append]
  unfold getE
  cases hx : r[idxE r lo]? with
  | none =>
    have := List.getElem?_eq_none_iff.1 hx
    rw [List.drop_eq_nil_of_le this]; rfl
  | some y =>
    obtain ⟨g1, g2⟩ := List.getElem?_eq_some_iff.1 hx
    rw [List.drop_eq_getElem_cons g1, g2, List.filter_cons, filter_none (fun e he => decide_eq_false (by have := h3 e he; omega))]
    by_cases hy : y.lo = lo
    · rw [if_pos (decide_eq_true hy)]; simp only [hy, if_true]; rfl
    · rw [if_neg (by simpa using hy)]; simp only [hy, if_false]; rfl
theorem filt_not {r : Ents} (hs : SortE r) (lo : Int) : r.filter (fun e => !decide (e.lo = lo)) = delE r lo := by
  obtain ⟨h1, h2, h3⟩ := idx_split hs lo
  have hA : (r.take (idxE r lo)).filter (fun e => !decide (e.lo = lo)) = r.take (idxE r lo) := filter_id fun e he => by have := h1 e he; simp; omega
  have hB : (r.drop (idxE r lo + 1)).filter (fun e => !decide (e.lo = lo)) = r.drop (idxE r lo + 1) := filter_id fun e he => by have := h3 e he; simp; omega
  conv => lhs; rw [← List.take_append_drop (idxE r lo) r]
  rw [List.filter_append, hA]
  unfold delE hasE delL
  cases hx : r[idxE r lo]? with
  | none =>
    have := List.getElem?_eq_none_iff.1 hx
    rw [List.drop_eq_nil_of_le this]
    simp only [Bool.false_eq_true, if_false, List.filter_nil, List.append_nil]
    exact List.take_of_length_le this
  | some y =>
    obtain ⟨g1, g2⟩ := List.getElem?_eq_some_iff.1 hx
    rw [List.drop_eq_getElem_cons g1, g2, List.filter_cons, hB]
    by_cases hy : y.lo = lo
    · rw [if_neg (by simpa using hy)]; simp only [hy, decide_true, if_true]
    · rw [if_pos (by simpa using hy)]
      simp only [decide_eq_true_eq, hy, if_false]
      rw [← g2, ← List.drop_eq_getElem_cons g1, List.take_append_drop]
theorem split_sorted {α : Type} {R : α → α → Prop} {p : α → Bool} (hp : ∀ a b, R a b → p b = true → p a = true) : ∀ L : List α, L.Pairwise R → L.filter p ++ L.filter (fun e => !p e) = L
  | [], _ => rfl
  | x :: L, h => by
    rw [List.pairwise_cons] at h
    have ih := split_sorted hp L h.2
    rw [List.filter_cons, List.filter_cons]
    cases hx : p x with
    | true => simp only [if_true, Bool.not_true, Bool.false_eq_true, if_false, List.cons_append, ih]
    | false =>
      have hn : ∀ y ∈ L, p y = false := fun y hy => by
        cases hq : p y with
        | false => rfl
        | true => rw [hp x y (h.1 y hy) hq] at hx; cases hx
      simp only [if_true, Bool.not_false, Bool.false_eq_true, if_false]
      rw [filter_none hn, List.nil_append, filter_id fun y hy => by rw [hn y hy]; rfl]
theorem ahead_iff (e : Ent) (k : ByteArray) (lo : Int) : aheadB e k lo = true ↔ ltB e.key k ∨ e.key = k ∧ e.lo < lo := by
  unfold aheadB
  rw [Bool.or_eq_true, lts_eq', Bool.and_eq_true, decide_eq_true_eq, decide_eq_true_eq]
theorem ahead_down (k : ByteArray) (lo : Int) : ∀ a b, ltE a b → aheadB b k lo = true → aheadB a k lo = true := by
  intro a b h hb
  rw [ahead_iff] at hb ⊢
  rcases h with h | ⟨h, h'⟩
  · rcases hb with q | ⟨q, _⟩
    · exact .inl (ltB_trans h q)
    · exact .inl (q ▸ h)
  · rcases hb with q | ⟨q, q'⟩
    · exact .inl (h ▸ q)
    · exact .inr ⟨h.trans q, by omega⟩
structure TRel (T : Tab) (L : Ents) : Prop where
  row : ∀ k, T.row k = L.filter fun e => decide (e.key = k)
  srt : L.Pairwise ltE
  good : ∀ e ∈ L, goodE e = true
  n : T.n = (L.length : Int)
  bytes : T.bytes = (sumN L : Int)
theorem row_sort {L : Ents} (h : L.Pairwise ltE) (k : ByteArray) : SortE (L.filter fun e => decide (e.key = k)) := by
  refine List.Pairwise.imp_of_mem (fun {a b} ha hb hab => ?_) (h.sublist List.filter_sublist)
  rcases hab with q | ⟨_, q⟩
  · have e1 := of_decide_eq_true (List.mem_filter.1 ha).2
    have e2 := of_decide_eq_true (List.mem_filter.1 hb).2
    rw [e1, e2] at q
    exact absurd q (ltB_irrefl _)
  · exact q
theorem TRel.wf {T : Tab} {L : Ents} (h : TRel T L) {N : Nat} (hN : L.length ≤ N) : T.WF N := ⟨fun k => by rw [h.row]; exact row_sort h.srt k, fun k => by rw [h.row]; exact Nat.le_trans (List.length_filter_le _ _) hN⟩
theorem TRel.new : TRel tF0 [] := ⟨fun k => rfl, List.Pairwise.nil, fun e he => by simp at he, rfl, rfl⟩
theorem filter_key_keep (L : Ents) (k k' : ByteArray) (lo : Int) : (L.filter (keepE k lo)).filter (fun e => decide (e.key = k')) = if k = k' then (L.filter fun e => decide (e.key = k)).filter (fun e => !decide (e.lo = lo)) else L.filter fun e => decide (e.key = k') := by
  rw [List.filter_filter]
  split
  · rename_i h
    subst h
    rw [List.filter_filter]
    refine List.filter_congr fun e _ => ?_
    unfold keepE
    cases decide (e.key = k) <;> cases decide (e.lo = lo) <;> rfl
  · rename_i h
    refine List.filter_congr fun e _ => ?_
    unfold keepE
    by_cases q : e.key = k'
    · have : decide (e.key = k) = false := decide_eq_false fun q' => h (q'.symm.trans q)
      rw [this]; simp
    · rw [decide_eq_false q]; rfl
theorem filter_nkeep (L : Ents) (k : ByteArray) (lo : Int) : L.filter (fun e => !keepE k lo e) = (L.filter fun e => decide (e.key = k)).filter fun e => decide (e.lo = lo) := by
  rw [List.filter_filter]
  refine List.filter_congr fun e _ => ?_
  unfold keepE
  cases decide (e.key = k) <;> cases decide (e.lo = lo) <;> rfl
/-- What is dropped: the entry of that key and Lo, if there is one. -/
theorem TRel.gone {T : Tab} {L : Ents} (h : TRel T L) (k : ByteArray) (lo : Int) : L.filter (fun e => !keepE k lo e) = (getE (T.row k) lo).toList := by
  rw [filter_nkeep, ← h.row, filt_has (h.row k ▸ row_sort h.srt k)]
theorem getE_some {r : Ents} {lo : Int} {y : Ent} (h : getE r lo = some y) : r[idxE r lo]? = some y ∧ y.lo = lo := by
  unfold getE at h
  cases hx : r[idxE r lo]? with
  | none => rw [hx] at h; cases h
  | some x =>
    rw [hx] at h
    simp only at h
    split at h
    · rename_i hl; cases h; exact ⟨rfl, hl⟩
    · cases h
theorem getE_none {r : Ents} {lo : Int} (h : getE r lo = none) : ∀ y, r[idxE r lo]? = some y → y.lo ≠ lo := by
  intro y hy hl
  unfold getE at h
  rw [hy] at h
  simp only [hl, if_true] at h
  cases h
theorem TRel.drop {T : Tab} {L : Ents} (h : TRel T L) (hn : (T.rows.map (·.1)).Nodup) (hl : L.length ≤ 1000000000) (k : ByteArray) (lo : Int) : TRel (T.drop k lo) (L.filter (keepE k lo)) := by
  have hsr : SortE (T.row k) := h.row k ▸ row_sort h.srt k
  have hg := h.gone k lo
  have h1 := len_filter (keepE k lo) L
  have h2 := sumN_filter (keepE k lo) L
  have h3 := sumN_le L h.good
  rw [hg] at h1 h2
  have hgd : ∀ e ∈ L.filter (keepE k lo), goodE e = true := fun e he => h.good e (List.mem_filter.1 he).1
  refine ⟨fun k' => ?_, h.srt.sublist List.filter_sublist, hgd, ?_, ?_⟩
  · rw [drop_row hn, filter_key_keep]
    split
    · rw [← h.row, filt_not hsr]
    · exact h.row k'
  · unfold Tab.drop
    cases hq : getE (T.row k) lo with
    | none =>
      rw [hq] at h1
      have := getE_none hq
      cases hx : (T.row k)[idxE (T.row k) lo]? with
      | none => simp only; rw [h.n]; simp at h1; omega
      | some y => simp only; rw [if_neg (this y hx), h.n]; simp at h1; omega
    | some y =>
      obtain ⟨a, b⟩ := getE_some hq
      rw [hq] at h1
      rw [a]
      simp only [b, if_true]
      simp only [Option.toList_some, List.length_singleton] at h1
      rw [h.n, wrap64 (by omega) (by omega)]; omega
  · unfold Tab.drop
    cases hq : getE (T.row k) lo with
    | none =>
      rw [hq] at h2
      have := getE_none hq
      cases hx : (T.row k)[idxE (T.row k) lo]? with
      | none => simp only; rw [h.bytes]; simp [sumN] at h2 ⊢; omega
      | some y => simp only; rw [if_neg (this y hx), h.bytes]; simp [sumN] at h2 ⊢; omega
    | some y =>
      obtain ⟨a, b⟩ := getE_some hq
      rw [hq] at h2 hg
      rw [a]
      simp only [b, if_true]
      have hy : y ∈ L := by
        have : y ∈ L.filter fun e => !keepE k lo e := by rw [hg]; simp
        exact (List.mem_filter.1 this).1
      have hyg := h.good y hy
      have h4 : sumN [y] = costN y := by simp [sumN]
      rw [Option.toList_some, h4] at h2
      rw [h.bytes, costE_good hyg, wrap64 (by omega) (by omega)]; omega
theorem takeWhile_app {α : Type} {p : α → Bool} {a b : List α} (ha : ∀ e ∈ a, p e = true) (hb : ∀ e ∈ b, p e = false) : (a ++ b).takeWhile p = a := by
  induction a with
  | nil =>
    cases b with
    | nil => rfl
    | cons x b => rw [List.nil_append, List.takeWhile_cons, hb x (List.mem_cons_self ..)]; rfl
  | cons x a ih => rw [List.cons_append, List.takeWhile_cons, ha x (List.mem_cons_self ..), if_pos rfl, ih fun e he => ha e (List.mem_cons_of_mem _ he)]
theorem TRel.put {T : Tab} {L : Ents} (h : TRel T L) (hn : (T.rows.map (·.1)).Nodup) (hl : L.length ≤ 100000000) (e : Ent) : TRel (T.putR e) (rputL L e) := by
  unfold Tab.putR rputL
  cases hge : goodE e with
  | false => simp only [Bool.false_eq_true, if_false]; exact h
  | true =>
    simp only [if_true]
    have hd := h.drop hn (by omega) e.key e.lo
    have hdr := drop_row (k := e.key) (lo := e.lo) hn e.key
    rw [if_pos rfl] at hdr
    have hno : ∀ y ∈ L.filter (keepE e.key e.lo), ¬ (y.key = e.key ∧ y.lo = e.lo) := fun y hy ⟨a, b⟩ => by
      have := (List.mem_filter.1 hy).2
      unfold keepE at this
      rw [a, b] at this
      simp at this
    have hll : (L.filter (keepE e.key e.lo)).length ≤ L.length := List.length_filter_le _ _
    generalize hlq : L.filter (keepE e.key e.lo) = l at hd hno hll
    have hsp := split_sorted (ahead_down e.key e.lo) l hd.srt
    have hA : ∀ y ∈ l.filter (fun a => aheadB a e.key e.lo), ltE y e := fun y hy => (ahead_iff _ _ _).1 (List.mem_filter.1 hy).2
    have hB : ∀ y ∈ l.filter (fun a => !aheadB a e.key e.lo), ltE e y := fun y hy => by
      obtain ⟨m1, m2⟩ := List.mem_filter.1 hy
      have m3 : ¬ (ltB y.key e.key ∨ y.key = e.key ∧ y.lo < e.lo) := fun q => by rw [(ahead_iff _ _ _).2 q] at m2; cases m2
      rcases ltB_tri e.key y.key with q | q | q
      · exact .inl q
      · refine .inr ⟨q, ?_⟩
        have a1 : ¬ y.lo < e.lo := fun q' => m3 (.inr ⟨q.symm, q'⟩)
        have a2 : y.lo ≠ e.lo := fun q' => hno y m1 ⟨q.symm, q'⟩
        omega
      · exact absurd (.inl q) m3
    generalize hAe : l.filter (fun a => aheadB a e.key e.lo) = A at hsp hA
    generalize hBe : l.filter (fun a => !aheadB a e.key e.lo) = B at hsp hB
    have hspl : splitL l e = A ++ [e] ++ B := by unfold splitL; rw [hAe, hBe]
    rw [hspl]
    have hls : l.Pairwise ltE := hd.srt
    rw [← hsp, List.pairwise_append] at hls
    have hlen : l.length = A.length + B.length := by rw [← hsp, List.length_append]
    have hsum : sumN l = sumN A + sumN B := by rw [← hsp, sumN_app]
    have hlg : ∀ y ∈ l, goodE y = true := hd.good
    refine ⟨fun k' => ?_, ?_, fun y hy => ?_, ?_, ?_⟩
    · rw [put_row hn, List.filter_append, List.filter_append]
      by_cases hk : e.key = k'
      · subst hk
        rw [if_pos rfl]
        have hr : delE (T.row e.key) e.lo = A.filter (fun y => decide (y.key = e.key)) ++ B.filter (fun y => decide (y.key = e.key)) := by rw [← hdr, hd.row, ← hsp, List.filter_append]
        have ha : ∀ y ∈ A.filter (fun y => decide (y.key = e.key)), decide (y.lo < e.lo) = true := fun y hy => by
          obtain ⟨m1, m2⟩ := List.mem_filter.1 hy
          rcases hA y m1 with q | ⟨_, q⟩
          · rw [of_decide_eq_true m2] at q; exact absurd q (ltB_irrefl _)
          · exact decide_eq_true q
        have hb : ∀ y ∈ B.filter (fun y => decide (y.key = e.key)), decide (y.lo < e.lo) = false := fun y hy => by
          obtain ⟨m1, m2⟩ := List.mem_filter.1 hy
          rcases hB y m1 with q | ⟨_, q⟩
          · rw [of_decide_eq_true m2] at q; exact absurd q (ltB_irrefl _)
          · exact decide_eq_false (by omega)
        have hi : idxE (delE (T.row e.key) e.lo) e.lo = (A.filter fun y => decide (y.key = e.key)).length := by unfold idxE; rw [hr, takeWhile_app ha hb]
        unfold putE insL
        rw [hi, hr, List.take_left, List.drop_left, List.filter_cons, if_pos (decide_eq_true rfl), List.filter_nil, List.append_assoc]; rfl
      · rw [if_neg hk, List.filter_cons, if_neg (by simpa using hk), List.filter_nil, List.append_nil, ← List.filter_append, hsp, ← hlq, filter_key_keep, if_neg hk]
        exact h.row k'
    · rw [List.append_assoc, List.pairwise_append]
      refine ⟨hls.1, List.pairwise_append.2 ⟨List.pairwise_singleton _ _, hls.2.1, fun a ha b hb => ?_⟩, fun a ha b hb => ?_⟩
      · rw [List.mem_singleton.1 ha]; exact hB b hb
      · rcases List.mem_append.1 hb with q | q
        · rw [List.mem_singleton.1 q]; exact hA a ha
        · exact hls.2.2 a ha b q
    · rcases List.mem_append.1 hy with q | q
      · rcases List.mem_append.1 q with q | q
        · exact hlg y (by rw [← hsp]; exact List.mem_append_left _ q)
        · rw [List.mem_singleton.1 q]; exact hge
      · exact hlg y (by rw [← hsp]; exact List.mem_append_right _ q)
    · show IntKind.i64.wrap ((T.drop e.key e.lo).n + 1) = _
      rw [hd.n, wrap64 (by omega) (by omega), List.length_append, List.length_append, List.length_singleton]; omega
    · show IntKind.i64.wrap ((T.drop e.key e.lo).bytes + costE e) = _
      have h4 : sumN [e] = costN e := by simp [sumN]
      have h5 := sumN_le l hlg
      have h6 := costN_le hge
      rw [hd.bytes, costE_good hge, wrap64 (by omega) (by omega), sumN_app, sumN_app, h4]; omega
theorem rputL_len (L : Ents) (e : Ent) : (rputL L e).length ≤ L.length + 1 := by
  unfold rputL
  split
  · unfold splitL
    have := len_filter (fun a => aheadB a e.key e.lo) (L.filter (keepE e.key e.lo))
    have := List.length_filter_le (keepE e.key e.lo) L
    rw [List.length_append, List.length_append, List.length_singleton]; omega
  · omega
theorem TRel.get {T : Tab} {L : Ents} (h : TRel T L) (k : ByteArray) (lo : Int) : getL L k lo = getE (T.row k) lo := by
  have h1 := filt_has (h.row k ▸ row_sort h.srt k) lo
  rw [h.row, List.filter_filter] at h1
  have h2 : getL L k lo = (L.filter fun e => decide (e.key = k) && decide (e.lo = lo)).head? := by unfold getL; rw [List.head?_filter]
  rw [h2, h.row]
  have h3 : (L.filter fun e => decide (e.key = k) && decide (e.lo = lo)) = L.filter fun e => decide (e.lo = lo) && decide (e.key = k) := List.filter_congr fun e _ => Bool.and_comm _ _
  rw [h3, h1]
  cases getE (L.filter fun e => decide (e.key = k)) lo <;> rfl
theorem TRel.find {T : Tab} {L : Ents} (h : TRel T L) (k : ByteArray) (x lo hi : Int) : findL L k x lo hi = findE (T.row k) x lo hi := by
  unfold findL findE
  rw [h.row, List.filter_filter]
  congr 1
  exact List.filter_congr fun e _ => Bool.and_comm _ _
theorem TRel.dropB {T : Tab} {L : Ents} (h : TRel T L) (k : ByteArray) (lo : Int) : decide ((L.filter (keepE k lo)).length < L.length) = hasE (T.row k) lo := by
  have hg := h.gone k lo
  have h1 := len_filter (keepE k lo) L
  rw [hg] at h1
  rw [← getE_has]
  cases hq : getE (T.row k) lo with
  | none => rw [hq, Option.toList_none, List.length_nil] at h1; exact decide_eq_false (by omega)
  | some y => rw [hq, Option.toList_some, List.length_singleton] at h1; exact decide_eq_true (by omega)
theorem TRel.ent {T : Tab} {L : Ents} (h : TRel T L) : EntWF T := fun k e he => by
  rw [h.row] at he
  obtain ⟨a, b⟩ := List.mem_filter.1 he
  exact ⟨of_decide_eq_true b, h.good e a⟩
theorem TabI.drop {T : Tab} {i : Nat} (h : TabI T i) (hn : (T.rows.map (·.1)).Nodup) (k : ByteArray) (lo : Int) : TabI (T.drop k lo) i := by
  have hkeys : ∀ k' ∈ (T.drop k lo).rows.map (·.1), k' ∈ T.rows.map (·.1) := by
    intro k' hk'
    unfold Tab.drop at hk'
    cases hx : (T.row k)[idxE (T.row k) lo]? with
    | none => rw [hx] at hk'; exact hk'
    | some y =>
      have hkm : k ∈ T.rows.map (·.1) := by
        apply Classical.byContradiction
        intro q
        rw [row_none q] at hx
        simp at hx
      rw [hx] at hk'
      simp only at hk'
      split at hk'
      · simp only at hk'
        split at hk'
        · rw [keys_adel _ _ hn] at hk'
          exact (List.mem_filter.1 hk').1
        · rw [keys_aset, if_pos hkm] at hk'
          exact hk'
      · exact hk'
  have hlen : (T.drop k lo).rows.length ≤ T.rows.length := by
    unfold Tab.drop
    cases hx : (T.row k)[idxE (T.row k) lo]? with
    | none => exact Nat.le_refl _
    | some y =>
      have hkm : k ∈ T.rows.map (·.1) := by
        apply Classical.byContradiction
        intro q
        rw [row_none q] at hx
        simp at hx
      simp only
      split
      · simp only
        split
        · have := congrArg List.length (keys_adel T.rows k hn)
          simp only [List.length_map] at this
          rw [this]
          have := List.length_filter_le (fun x => !decide (x = k)) (T.rows.map (·.1))
          simpa using this
        · have := congrArg List.length (keys_aset T.rows k (delL (T.row k) (idxE (T.row k) lo)))
          rw [if_pos hkm] at this
          simp at this; omega
      · exact Nat.le_refl _
  refine ⟨h.wf.drop hn k lo, fun k' e he => ?_, fun k' hk' => h.key k' (hkeys k' hk'), Nat.le_trans hlen h.len⟩
  rw [drop_row hn] at he
  split at he
  · rename_i q
    subst q
    exact h.ent _ e ((delE_sub _ _).subset he)
  · exact h.ent k' e he
theorem ltE_asymm {a b : Ent} (h : ltE a b) (h' : ltE b a) : False := by
  rcases h with h | ⟨h, l⟩
  · rcases h' with q | ⟨q, _⟩
    · exact ltB_irrefl _ (ltB_trans h q)
    · rw [q] at h; exact ltB_irrefl _ h
  · rcases h' with q | ⟨_, l'⟩
    · rw [h] at q; exact ltB_irrefl _ q
    · omega
theorem TRel.all {T : Tab} {L : Ents} (h : TRel T L) (hn : (T.rows.map (·.1)).Nodup) : allE T (keysOf (T.rows.map (·.1))) = L := by
  have hs := all_sorted h.ent (h.wf (Nat.le_refl _)) _ (keysOf_lt hn)
  have nd : ∀ l : Ents, l.Pairwise ltE → l.Nodup := fun l hl => hl.imp fun {a b} hab e => by subst e; exact ltE_asymm hab hab
  have hp : (allE T (keysOf (T.rows.map (·.1)))).Perm L := by
    refine (List.perm_ext_iff_of_nodup (nd _ hs) (nd _ h.srt)).2 fun e => ?_
    unfold allE
    rw [List.mem_flatMap]
    constructor
    · rintro ⟨k, _, he⟩
      rw [h.row] at he
      exact (List.mem_filter.1 he).1
    · intro he
      have hr : e ∈ T.row e.key := by rw [h.row]; exact List.mem_filter.2 ⟨he, decide_eq_true rfl⟩
      refine ⟨e.key, ?_, hr⟩
      rw [keysOf_mem]
      apply Classical.byContradiction
      intro q
      rw [row_none q] at hr
      simp at hr
  exact List.Perm.eq_of_pairwise (le := ltE) (fun a b _ _ h1 h2 => (ltE_asymm h1 h2).elim) hs h.srt hp
end Go.Proofs.Ytldmkhakjnglmaa
