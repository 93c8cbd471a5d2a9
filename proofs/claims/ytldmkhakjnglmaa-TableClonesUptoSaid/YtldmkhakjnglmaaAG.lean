/- Table: Get; All, whatever the map. -/
import Derived.Test.YtldmkhakjnglmaaAF
set_option linter.unusedVariables false
set_option linter.unusedSimpArgs false
set_option maxRecDepth 10000
namespace Go.Proofs.Ytldmkhakjnglmaa
open Go.RowKit Go.Maps Go.Sort Go.Shelf Go.VW
theorem sortedEnt0 {w : World} {K : Value → World → Prop} (hK : ∀ v w', Own 1 9 w' v 0 [] → Fr [] w w' → (∀ g, v.ownBlock = some g → w.heap.size ≤ g) → K v w') :
    CallsN Try.prog 28 [.func (.func 43) #[] #[.pointer (some ⟨w.heap.size, 0, none⟩)]] (w.alloc (.cells #[.map none] 54)) K := by
  have hmax : (0 : Nat) ≤ maxLen := Nat.zero_le _
  have hseq : SeqGives Fence.wide 2 Try.prog 43 #[.pointer (some ⟨w.heap.size, 0, none⟩)] encStr (fun ss : List (List UInt8) => ss = []) 0 (w.alloc (.cells #[.map none] 54)) :=
    AnyZ.keys_gives_nil (ρ := Ytldmkhakjnglmaa.kM_ren) { Ytldmkhakjnglmaa.kM with } Fence.wide _ trivial rfl w.heap.size _ (by simp) (by simp)
  have cS := AnyZ.sorted_in Ytldmkhakjnglmaa.sM Fence.wide 5 trivial trivial trivial trivial rfl (by omega) (sortsM _) (enters_of Try.func42 (by kernel_rfl) rfl) 43 #[.pointer (some ⟨w.heap.size, 0, none⟩)] trivial (enters_of Try.func43 (by kernel_rfl) rfl) _ _ hmax (by simp) _ hseq
  change CallsIn _ _ Try.prog 28 _ _ _ at cS
  refine CallsN.of ((callsIn_wide.1 cS).mono fun e w' h => ?_)
  obtain ⟨v, ss, rfl, hS, hrow, hnil, hbelow⟩ := h
  subst hS
  obtain ⟨ho, hfr⟩ := Own.of_row hrow
  have ho' : Own 1 (Ytldmkhakjnglmaa.sM_ren.t 26) w' v 0 [] := by simpa using ho
  refine ⟨v, rfl, hK v w' ho' (((Fr.refl [] w).alloc _).trans' (Fr.of_below hbelow)) fun g hg => ?_⟩
  have := hfr g hg
  rw [size_alloc] at this
  omega
theorem all_empty {w : World} {tb : Nat} {S : List Nat} {T : Tab} {K : Value → World → Prop} (h : TabAt w tb S T) (hm : ∃ n b, w.heap[tb]? = some (.cells ([.map none, .int .i64 n, .int .i64 b] : List Value).toArray 56 (0, 0)))
    (hK : ∀ w', Fr [] w w' → K sliceZ w') : CallsN Try.prog 14 [.pointer (some ⟨tb, 0, none⟩)] w K := by
  have cw := cur w
  obtain ⟨n, b, h1⟩ := hm
  have hlt := lt_of_get _ _ h1
  refine call14 ?_
  simp (maxSteps := 4000000) (disch := (first | assumption | exact List.not_mem_nil | exact Fr.refl _ _ | ((repeat (first | assumption | apply cur_alloc | apply cur_setB | apply cur_drew | apply cur_drewN)); done) | omega | (simp only [gz, Value.cells, oneC]; first | done | omega) | ((simp only [List.mem_cons, List.not_mem_nil, or_false, gz]); omega) | rfl)) only [↓gsd, gs, ev, Nat.reduceAdd, Nat.reduceEqDiff, oneC, Value.cells, Option.isNone, gt, frT_self, frT_drew, frT_drew0, frT_alloc, ↓hk14, h1]
  refine keysEnt ?_
  try simp (maxSteps := 4000000) (disch := (first | assumption | exact List.not_mem_nil | exact Fr.refl _ _ | ((repeat (first | assumption | apply cur_alloc | apply cur_setB | apply cur_drew | apply cur_drewN)); done) | omega | (simp only [gz, Value.cells, oneC]; first | done | omega) | ((simp only [List.mem_cons, List.not_mem_nil, or_false, gz]); omega) | rfl)) only [↓gsd, gs, ev, Nat.reduceAdd, Nat.reduceEqDiff, oneC, Value.cells, Option.isNone, gt, frT_self, frT_drew, frT_drew0, frT_alloc, ↓hk14]
  refine sortedEnt0 fun v w1 hown hf hfr => ?_
  have cw1 := cur w1
  obtain ⟨va, vc, hvf⟩ := hown.sl.form
  simp (maxSteps := 4000000) (disch := (first | assumption | exact List.not_mem_nil | exact Fr.refl _ _ | ((repeat (first | assumption | apply cur_alloc | apply cur_setB | apply cur_drew | apply cur_drewN)); done) | omega | (simp only [gz, Value.cells, oneC]; first | done | omega) | ((simp only [List.mem_cons, List.not_mem_nil, or_false, gz]); omega) | rfl)) only [↓gsd, gs, ev, Nat.reduceAdd, Nat.reduceEqDiff, oneC, Value.cells, Option.isNone, gt, frT_self, frT_drew, frT_drew0, frT_alloc, ↓hk14, hvf]
  refine loop_intro (fun e w' => e 3 = sliceZ ∧ e 14 = .int .i64 0 ∧ e 15 = .int .i64 0 ∧ Fr [] w w') (fun e _ => 0) ?_ ?_
  · simp (maxSteps := 4000000) (disch := (first | assumption | exact List.not_mem_nil | exact Fr.refl _ _ | ((repeat (first | assumption | apply cur_alloc | apply cur_setB | apply cur_drew | apply cur_drewN)); done) | omega | (simp only [gz, Value.cells, oneC]; first | done | omega) | ((simp only [List.mem_cons, List.not_mem_nil, or_false, gz]); omega) | rfl)) only [↓gsd, gs, ev, Nat.reduceAdd, Nat.reduceEqDiff, oneC, Value.cells, Option.isNone, Int.natCast_zero]
    exact hf
  rintro e w2 kk ⟨e3, e14, e15, hf2⟩ hkk
  have cw2 := cur w2
  have d : decide ((0 : Int) < 0) = false := rfl
  simp (maxSteps := 4000000) (disch := (first | assumption | exact List.not_mem_nil | exact Fr.refl _ _ | ((repeat (first | assumption | apply cur_alloc | apply cur_setB | apply cur_drew | apply cur_drewN)); done) | omega | (simp only [gz, Value.cells, oneC]; first | done | omega) | ((simp only [List.mem_cons, List.not_mem_nil, or_false, gz]); omega) | rfl)) only [↓gsd, gs, ev, Nat.reduceAdd, Nat.reduceEqDiff, oneC, Value.cells, Option.isNone, gt, frT_self, frT_drew, frT_drew0, frT_alloc, ↓hk14, e3, e14, e15, d]
  exact hK _ hf2
theorem all_spec' {w : World} {tb : Nat} {S : List Nat} {T : Tab} {K : Value → World → Prop} (h : TabAt w tb S T) (hk : ∀ k ∈ T.rows.map (·.1), k.size ≤ 32) (hn : T.rows.length ≤ 1000000000)
    (hB : (allE T (keysOf (T.rows.map (·.1)))).length ≤ 1700000000000)
    (hK : ∀ v w', Own 8 36 w' v (allE T (keysOf (T.rows.map (·.1)))).length (cellsOf encEnt (allE T (keysOf (T.rows.map (·.1))))) → (∀ g, v.ownBlock = some g → w.heap.size ≤ g) → Fr [] w w' → K v w') : CallsN Try.prog 14 [.pointer (some ⟨tb, 0, none⟩)] w K := by
  obtain ⟨⟨mb, h1, h2⟩, h3, h4⟩ := id h
  cases mb with
  | none =>
    have hne : T.rows = [] := h2
    have e0 : allE T (keysOf (T.rows.map (·.1))) = [] := by rw [hne]; simp [allE, keysOf, sortB]
    rw [e0] at hK
    exact all_empty h ⟨_, _, h1⟩ fun w' hf => hK _ _ Own.nil (fun g hg => by simp [Value.ownBlock] at hg) hf
  | some bm =>
    obtain ⟨es, hr⟩ := h2
    exact all_specM h1 hr h4 hk hn hB hK
def getE (l : Ents) (lo : Int) : Option Ent := match l[idxE l lo]? with
  | some e => if e.lo = lo then some e else none
  | none => none
theorem getE_has (l : Ents) (lo : Int) : (getE l lo).isSome = hasE l lo := by
  unfold getE hasE
  cases l[idxE l lo]? with
  | none => rfl
  | some e =>
    simp only
    by_cases h : e.lo = lo
    · rw [if_pos h, decide_eq_true h]; rfl
    · rw [if_neg h, decide_eq_false h]; rfl
set_option maxHeartbeats 4000000 in
theorem Get_spec {w : World} {tb : Nat} {S : List Nat} {T : Tab} {N : Nat} {k : ByteArray} {lo : Int} {K : Value → World → Prop} (h : TabAt w tb S T) (hwf : T.WF N) (hN : N ≤ 1000000000000)
    (hK : ∀ w', Fr [] w w' → K (.tuple ([.agg (encEnt ((getE (T.row k) lo).getD entZ)).toArray, .bool (hasE (T.row k) lo)] : List Value).toArray) w') : CallsN Try.prog 17 [.pointer (some ⟨tb, 0, none⟩), .string k, .int .i64 lo] w K := by
  have cw := cur w
  refine call17 ?_
  simp (maxSteps := 4000000) (disch := (first | assumption | exact List.not_mem_nil | exact Fr.refl _ _ | ((repeat (first | assumption | apply cur_alloc | apply cur_setB | apply cur_drew | apply cur_drewN)); done) | omega | (simp only [gz, Value.cells, oneC]; first | done | omega) | ((simp only [List.mem_cons, List.not_mem_nil, or_false, gz]); omega) | rfl)) only [↓gsd, gs, ev, Nat.reduceAdd, Nat.reduceEqDiff, oneC, Value.cells, Option.isNone, gt, frT_self, frT_drew, frT_drew0, frT_alloc, ↓hk17]
  generalize hW : World.alloc w _ = w1
  have hf1 : Fr [] w w1 := by rw [← hW]; (repeat (first | exact Fr.refl _ _ | assumption | with_reducible apply Fr.alloc | with_reducible apply Fr.drew | with_reducible refine Fr.setB ?_ _ _ (.inr (by first | omega | (simp only [gz]; omega))) | with_reducible refine Fr.setB ?_ _ _ (.inl (by first | assumption | simp)) | with_reducible refine Fr.trans' ?_ (by assumption)))
  have hz1 : w1.heap.size = w.heap.size + 1 := by rw [← hW]; simp only [gz]
  have g1 : w1.heap[w.heap.size]? = some (.cells (encEnt entZ).toArray 36 (0, 0)) := by rw [← hW]; exact get_alloc_new _ _
  clear hW
  have cw1 := cur w1
  refine find_spec (h.frN hf1) hwf hN fun w2 hf2 => ?_
  have cw2 := cur w2
  have g2 := hf2.getN g1
  have hl2 := lt_of_get _ _ g2
  have hll := hwf.len k
  cases hh : hasE (T.row k) lo with
  | false =>
    have hg : getE (T.row k) lo = none := by
      have := getE_has (T.row k) lo
      rw [hh] at this
      cases hq : getE (T.row k) lo with
      | none => rfl
      | some e => rw [hq] at this; cases this
    rw [hg, hh] at hK
    unfold encEnt at g2 hK
    simp (maxSteps := 4000000) (disch := (first | assumption | exact List.not_mem_nil | exact Fr.refl _ _ | ((repeat (first | assumption | apply cur_alloc | apply cur_setB | apply cur_drew | apply cur_drewN)); done) | omega | (simp only [gz, Value.cells, oneC]; first | done | omega) | ((simp only [List.mem_cons, List.not_mem_nil, or_false, gz]); omega) | rfl)) only [↓gsd, gs, ev, Nat.reduceAdd, Nat.reduceEqDiff, oneC, Value.cells, Option.isNone, gt, frT_self, frT_drew, frT_drew0, frT_alloc, ↓hk17, hh, g2]
    exact hK _ ((hf1.trans' hf2).setB _ _ (.inr (Nat.le_refl _)))
  | true =>
    obtain ⟨x, hx, hxlo⟩ : ∃ x, (T.row k)[idxE (T.row k) lo]? = some x ∧ x.lo = lo := by
      unfold hasE at hh
      cases hx : (T.row k)[idxE (T.row k) lo]? with
      | none => rw [hx] at hh; cases hh
      | some x => rw [hx] at hh; exact ⟨x, rfl, by simpa using hh⟩
    have hg : getE (T.row k) lo = some x := by unfold getE; rw [hx]; simp only [hxlo, if_true]
    rw [hg, hh] at hK
    simp (maxSteps := 4000000) (disch := (first | assumption | exact List.not_mem_nil | exact Fr.refl _ _ | ((repeat (first | assumption | apply cur_alloc | apply cur_setB | apply cur_drew | apply cur_drewN)); done) | omega | (simp only [gz, Value.cells, oneC]; first | done | omega) | ((simp only [List.mem_cons, List.not_mem_nil, or_false, gz]); omega) | rfl)) only [↓gsd, gs, ev, Nat.reduceAdd, Nat.reduceEqDiff, oneC, Value.cells, Option.isNone, gt, frT_self, frT_drew, frT_drew0, frT_alloc, ↓hk17, hh]
    refine row_spec ((h.frN hf1).frN hf2) fun v hv _ => ?_
    obtain ⟨bb, off, cap, ob, hv1, hob, hobl, hrow, _⟩ := (show SlOf 8 encEnt w2 v (T.row k) from hv.sl).read encEnt_len _ x hx
    have hil := (List.getElem?_eq_some_iff.1 hx).1
    have i0 : (0 : Int) ≤ (idxE (T.row k) lo : Int) := by omega
    have i1 : (idxE (T.row k) lo : Int) < ((T.row k).length : Int) := by omega
    unfold encEnt at g2 hK hrow
    simp (maxSteps := 4000000) (disch := (first | assumption | exact List.not_mem_nil | exact Fr.refl _ _ | ((repeat (first | assumption | apply cur_alloc | apply cur_setB | apply cur_drew | apply cur_drewN)); done) | omega | (simp only [gz, Value.cells, oneC]; first | done | omega) | ((simp only [List.mem_cons, List.not_mem_nil, or_false, gz]); omega) | rfl)) only [↓gsd, gs, ev, Nat.reduceAdd, Nat.reduceEqDiff, oneC, Value.cells, Option.isNone, gt, frT_self, frT_drew, frT_drew0, frT_alloc, ↓hk17, hv1, i0, i1, Int.toNat_natCast, hob, hrow, g2]
    exact hK _ ((hf1.trans' hf2).setB _ _ (.inr (Nat.le_refl _)))
end Go.Proofs.Ytldmkhakjnglmaa
