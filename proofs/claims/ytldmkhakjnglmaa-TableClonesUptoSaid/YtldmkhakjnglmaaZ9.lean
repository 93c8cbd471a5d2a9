/- Table: Clone, walked. -/
import Derived.Test.YtldmkhakjnglmaaZ7
set_option linter.unusedVariables false
set_option linter.unusedSimpArgs false
set_option maxRecDepth 10000
namespace Go.Proofs.Ytldmkhakjnglmaa
open Go.VW
theorem rput_snoc {L : Ents} (hs : L.Pairwise ltE) (hg : ∀ e ∈ L, goodE e = true) {i : Nat} {y : Ent} (hy : L[i]? = some y) : rputL (L.take i) y = L.take (i + 1) := by
  have hb : ∀ a ∈ L.take i, ltE a y := fun a ha => by
    obtain ⟨t, ht⟩ := List.getElem?_of_mem ha
    have htl := (List.getElem?_eq_some_iff.1 ht).1
    rw [List.length_take] at htl
    rw [List.getElem?_take, if_pos (by omega)] at ht
    obtain ⟨g1, g2⟩ := List.getElem?_eq_some_iff.1 ht
    obtain ⟨g3, g4⟩ := List.getElem?_eq_some_iff.1 hy
    have := List.pairwise_iff_getElem.1 hs t i g1 g3 (by omega)
    rwa [g2, g4] at this
  have h1 : (L.take i).filter (keepE y.key y.lo) = L.take i := filter_id fun a ha => by
    unfold keepE
    by_cases a1 : a.key = y.key
    · by_cases a2 : a.lo = y.lo
      · exfalso
        rcases hb a ha with q | ⟨_, q⟩
        · rw [a1] at q; exact ltB_irrefl _ q
        · omega
      · simp [a2]
    · simp [a1]
  have h2 : (L.take i).filter (fun a => aheadB a y.key y.lo) = L.take i := filter_id fun a ha => (ahead_iff _ _ _).2 (hb a ha)
  have h3 : (L.take i).filter (fun a => !aheadB a y.key y.lo) = [] := filter_none fun a ha => by rw [(ahead_iff _ _ _).2 (hb a ha)]; rfl
  unfold rputL splitL
  rw [if_pos (hg y (List.mem_of_getElem? hy)), h1, h2, h3, List.append_nil, take_snoc hy]
set_option maxHeartbeats 16000000 in
theorem clone10_spec {w : World} {tb : Nat} {S : List Nat} {T : Tab} {L : Ents} {N : Nat} {K : Value → World → Prop} (h : TabAt w tb S T) (hr : TRel T L) (hI : TabI T N) (hN : N ≤ 2097152) (hl : L.length ≤ 2097152)
    (hK : ∀ cb S' T' w', TabAt w' cb S' T' → TRel T' L → TabI T' L.length → (∀ x ∈ S', w.heap.size ≤ x) → Fr [] w w' → K (.pointer (some ⟨cb, 0, none⟩)) w') : CallsN Try.prog 20 [.pointer (some ⟨tb, 0, none⟩)] w K := by
  have cw := cur w
  refine call20 ?_
  simp (maxSteps := 4000000) (disch := (first | assumption | exact List.not_mem_nil | exact Fr.refl _ _ | ((repeat (first | assumption | apply cur_alloc | apply cur_setB | apply cur_drew | apply cur_drewN)); done) | omega | (simp only [gz, Value.cells, oneC]; first | done | omega) | ((simp only [List.mem_cons, List.not_mem_nil, or_false, gz]); omega) | rfl)) only [↓gsd, gs, ev, Nat.reduceAdd, Nat.reduceEqDiff, oneC, Value.cells, Option.isNone, gt, frT_self, frT_drew, frT_drew0, frT_alloc, ↓hk20]
  refine new_spec fun cb w1 hf1 hcb h1 => ?_
  have cw1 := cur w1
  have hz1 := hf1.size
  have hall := hr.all h.nd
  simp (maxSteps := 4000000) (disch := (first | assumption | exact List.not_mem_nil | exact Fr.refl _ _ | ((repeat (first | assumption | apply cur_alloc | apply cur_setB | apply cur_drew | apply cur_drewN)); done) | omega | (simp only [gz, Value.cells, oneC]; first | done | omega) | ((simp only [List.mem_cons, List.not_mem_nil, or_false, gz]); omega) | rfl)) only [↓gsd, gs, ev, Nat.reduceAdd, Nat.reduceEqDiff, oneC, Value.cells, Option.isNone, gt, frT_self, frT_drew, frT_drew0, frT_alloc, ↓hk20]
  refine all_spec' (h.frN hf1) hI.key (by have := hI.len; omega) (by rw [hall]; omega) fun va w2 hown2 hb2 hf2 => ?_
  have cw2 := cur w2
  rw [hall] at hown2
  obtain ⟨aa, ac, hva⟩ := hown2.sl.form
  simp (maxSteps := 4000000) (disch := (first | assumption | exact List.not_mem_nil | exact Fr.refl _ _ | ((repeat (first | assumption | apply cur_alloc | apply cur_setB | apply cur_drew | apply cur_drewN)); done) | omega | (simp only [gz, Value.cells, oneC]; first | done | omega) | ((simp only [List.mem_cons, List.not_mem_nil, or_false, gz]); omega) | rfl)) only [↓gsd, gs, ev, Nat.reduceAdd, Nat.reduceEqDiff, oneC, Value.cells, Option.isNone, gt, frT_self, frT_drew, frT_drew0, frT_alloc, ↓hk20, hva]
  rw [← hva]
  refine for_intro L.length 12 0 (fun i e w' => ∃ S' T', e 3 = .pointer (some ⟨cb, 0, none⟩) ∧ e 10 = va ∧ e 11 = .int .i64 L.length ∧ TabAt w' cb S' T' ∧ TRel T' (L.take i) ∧ TabI T' i ∧ (∀ x ∈ S', w.heap.size ≤ x) ∧ (∀ g, va.ownBlock = some g → g ∉ S') ∧ Fr [] w w' ∧ Own 8 36 w' va L.length (cellsOf encEnt L)) ?_ (Nat.zero_le _) ?_ ?_
  · simp (maxSteps := 4000000) (disch := (first | assumption | exact List.not_mem_nil | exact Fr.refl _ _ | ((repeat (first | assumption | apply cur_alloc | apply cur_setB | apply cur_drew | apply cur_drewN)); done) | omega | (simp only [gz, Value.cells, oneC]; first | done | omega) | ((simp only [List.mem_cons, List.not_mem_nil, or_false, gz]); omega) | rfl)) only [↓gsd, gs, ev, Nat.reduceAdd, Nat.reduceEqDiff, oneC, Value.cells, Option.isNone]; rfl
  · refine ⟨[cb], tF0, ?_⟩
    simp (maxSteps := 4000000) (disch := (first | assumption | exact List.not_mem_nil | exact Fr.refl _ _ | ((repeat (first | assumption | apply cur_alloc | apply cur_setB | apply cur_drew | apply cur_drewN)); done) | omega | (simp only [gz, Value.cells, oneC]; first | done | omega) | ((simp only [List.mem_cons, List.not_mem_nil, or_false, gz]); omega) | rfl)) only [↓gsd, gs, ev, Nat.reduceAdd, Nat.reduceEqDiff, oneC, Value.cells, Option.isNone]
    exact ⟨h1.frN hf2, TRel.new, TabI.new, fun x hx => by simp at hx; omega, fun g hg hm => by have := hb2 g hg; simp at hm; have := h1.lt cb (by simp); omega, hf1.trans' hf2, hown2⟩
  rintro i e w3 kk hi e12 ⟨S', T', e3, e10, e11, hT, hR, hI', hS', hva', hf, hown⟩ hk
  have cw3 := cur w3
  by_cases hil : i < L.length
  · have d : decide ((i : Int) < (L.length : Int)) = true := decide_eq_true (by omega)
    obtain ⟨y, hy⟩ : ∃ y, L[i]? = some y := ⟨L[i], List.getElem?_eq_getElem hil⟩
    obtain ⟨bb, off, cap, ob, hv1, hob, _, hrow, _⟩ := (show SlOf 8 encEnt w3 va L from hown.sl).read encEnt_len i y hy
    have i0 : (0 : Int) ≤ (i : Int) := by omega
    have i1 : (i : Int) < (L.length : Int) := by omega
    have wr : IntKind.i64.wrap ((i : Int) + 1) = (i : Int) + 1 := wrap64 (by omega) (by omega)
    unfold encEnt at hrow
    simp (maxSteps := 4000000) (disch := (first | assumption | exact List.not_mem_nil | exact Fr.refl _ _ | ((repeat (first | assumption | apply cur_alloc | apply cur_setB | apply cur_drew | apply cur_drewN)); done) | omega | (simp only [gz, Value.cells, oneC]; first | done | omega) | ((simp only [List.mem_cons, List.not_mem_nil, or_false, gz]); omega) | rfl)) only [↓gsd, gs, ev, Nat.reduceAdd, Nat.reduceEqDiff, oneC, Value.cells, Option.isNone, gt, frT_self, frT_drew, frT_drew0, frT_alloc, ↓hk20, e3, e10, e11, e12, hv1, d, i0, i1, Int.toNat_natCast, hob, hrow]
    generalize hW : World.alloc w3 _ = w4
    have hf4 : Fr [] w3 w4 := by rw [← hW]; (repeat (first | exact Fr.refl _ _ | assumption | with_reducible apply Fr.alloc | with_reducible apply Fr.drew | with_reducible refine Fr.setB ?_ _ _ (.inr (by first | omega | (simp only [gz]; omega))) | with_reducible refine Fr.setB ?_ _ _ (.inl (by first | assumption | simp)) | with_reducible refine Fr.trans' ?_ (by assumption)))
    clear hW
    have cw4 := cur w4
    refine put_spec (e := y) (hT.frN hf4) hI'.wf (by omega) fun w5 S5 hT5 hs5 hn5 hf5 => ?_
    have cw5 := cur w5
    have hz := hf.size
    have hz4 := hf4.size
    have hput := hR.put hT.nd (by rw [List.length_take]; omega) y
    rw [rput_snoc hr.srt hr.good hy] at hput
    simp (maxSteps := 4000000) (disch := (first | assumption | exact List.not_mem_nil | exact Fr.refl _ _ | ((repeat (first | assumption | apply cur_alloc | apply cur_setB | apply cur_drew | apply cur_drewN)); done) | omega | (simp only [gz, Value.cells, oneC]; first | done | omega) | ((simp only [List.mem_cons, List.not_mem_nil, or_false, gz]); omega) | rfl)) only [↓gsd, gs, ev, Nat.reduceAdd, Nat.reduceEqDiff, oneC, Value.cells, Option.isNone, gt, frT_self, frT_drew, frT_drew0, frT_alloc, ↓hk20, e3, e10, e11, e12, wr]
    refine hk _ _ hil (by simp (maxSteps := 4000000) (disch := (first | assumption | exact List.not_mem_nil | exact Fr.refl _ _ | ((repeat (first | assumption | apply cur_alloc | apply cur_setB | apply cur_drew | apply cur_drewN)); done) | omega | (simp only [gz, Value.cells, oneC]; first | done | omega) | ((simp only [List.mem_cons, List.not_mem_nil, or_false, gz]); omega) | rfl)) only [↓gsd, gs, ev, Nat.reduceAdd, Nat.reduceEqDiff, oneC, Value.cells, Option.isNone]) ⟨S5, T'.putR y, ?_⟩
    simp (maxSteps := 4000000) (disch := (first | assumption | exact List.not_mem_nil | exact Fr.refl _ _ | ((repeat (first | assumption | apply cur_alloc | apply cur_setB | apply cur_drew | apply cur_drewN)); done) | omega | (simp only [gz, Value.cells, oneC]; first | done | omega) | ((simp only [List.mem_cons, List.not_mem_nil, or_false, gz]); omega) | rfl)) only [↓gsd, gs, ev, Nat.reduceAdd, Nat.reduceEqDiff, oneC, Value.cells, Option.isNone, e3, e10, e11]
    refine ⟨hT5, hput, hI'.putR hT.nd y, fun x hx => ?_, fun g hg hm => ?_, (hf.trans' hf4).trans hf5 fun x hx => .inr (hS' x hx), (hown.frN hf4).fr hf5 fun b hb e => hva' b e hb⟩
    · rcases hn5 x hx with q | q
      · exact hS' x q
      · omega
    · rcases hn5 g hm with q | q
      · exact hva' g hg q
      · have := hown.lt hg; omega
  · have d : decide ((i : Int) < (L.length : Int)) = false := decide_eq_false (by omega)
    have hti : L.take i = L := List.take_of_length_le (by omega)
    rw [hti] at hR
    have hil' : i = L.length := by omega
    subst hil'
    simp (maxSteps := 4000000) (disch := (first | assumption | exact List.not_mem_nil | exact Fr.refl _ _ | ((repeat (first | assumption | apply cur_alloc | apply cur_setB | apply cur_drew | apply cur_drewN)); done) | omega | (simp only [gz, Value.cells, oneC]; first | done | omega) | ((simp only [List.mem_cons, List.not_mem_nil, or_false, gz]); omega) | rfl)) only [↓gsd, gs, ev, Nat.reduceAdd, Nat.reduceEqDiff, oneC, Value.cells, Option.isNone, gt, frT_self, frT_drew, frT_drew0, frT_alloc, ↓hk20, e3, e10, e11, e12, d]
    exact hK _ _ _ _ hT hR hI' hS' hf
end Go.Proofs.Ytldmkhakjnglmaa
