/- StreamPlays walked, for scripts of at most 1048576 steps. -/
import Derived.Test.YtenokheiindfkabE4
set_option linter.unusedVariables false
set_option linter.unusedSimpArgs false
set_option maxRecDepth 10000
namespace Go.Proofs.Ytenokheiindfkab
open Go.VW
theorem both_new {w0 w w' : World} {lb : Nat} (h : LogAt w lb [lb] [] []) (hf : Fr [] w0 w) (hlb : w0.heap.size ≤ lb) (hf' : Fr [] w w') (hr : w'.heap[w.heap.size]? = some (.cells ([.slice none 0 0] : List Value).toArray 38 (0, 0))) : Both w0 w' lb w.heap.size [] := by
  have hlt := h.lt lb (.inl (by simp))
  have hz := hf.size
  have hlt' := lt_of_get _ _ hr
  refine ⟨⟨[lb], [], [w.heap.size], [], h.frN hf', ⟨⟨.slice none 0 0, hr, RcsAt.nil⟩, by simp, fun x hx => by simp at hx; omega⟩, fun x hx => by simp at hx; subst hx; simp; omega, fun x hx => by simp at hx; subst hx; simp; omega⟩, hf.trans' hf'⟩
set_option maxHeartbeats 16000000 in
theorem plays_law {w : World} {sv : Value} {ops : List Op6} {K : Value → World → Prop} (h : SlOf 5 encOp6 w sv ops) (ho : ∀ o ∈ ops, ∃ ks, o.ok w ks) (hl : ops.length ≤ 1048576)
    (hK : ∀ w', Fr [] w w' → K (.bool true) w') : CallsN Try.prog 4 [sv] w K := by
  have cw := cur w
  obtain ⟨sa, sc, hsv⟩ := h.form
  refine call4 ?_
  simp (maxSteps := 4000000) (disch := (first | assumption | exact List.not_mem_nil | exact Fr.refl _ _ | ((repeat (first | assumption | apply cur_alloc | apply cur_setB | apply cur_drew | apply cur_drewN)); done) | omega | (simp only [gz, Value.cells, oneC]; first | done | omega) | ((simp only [List.mem_cons, List.not_mem_nil, or_false, gz]); omega) | rfl)) only [↓gsd, gs, ev, Nat.reduceAdd, Nat.reduceEqDiff, oneC, Value.cells, Option.isNone, gt, ↓hk4]
  refine fixed_spec fun w1 hf1 => ?_
  have cw1 := cur w1
  have hz1 := hf1.size
  simp (maxSteps := 4000000) (disch := (first | assumption | exact List.not_mem_nil | exact Fr.refl _ _ | ((repeat (first | assumption | apply cur_alloc | apply cur_setB | apply cur_drew | apply cur_drewN)); done) | omega | (simp only [gz, Value.cells, oneC]; first | done | omega) | ((simp only [List.mem_cons, List.not_mem_nil, or_false, gz]); omega) | rfl)) only [↓gsd, gs, ev, Nat.reduceAdd, Nat.reduceEqDiff, oneC, Value.cells, Option.isNone, gt, ↓hk4]
  refine new_log fun lb w2 hf2 hlb h2 => ?_
  have cw2 := cur w2
  have hz2 := hf2.size
  simp (maxSteps := 4000000) (disch := (first | assumption | exact List.not_mem_nil | exact Fr.refl _ _ | ((repeat (first | assumption | apply cur_alloc | apply cur_setB | apply cur_drew | apply cur_drewN)); done) | omega | (simp only [gz, Value.cells, oneC]; first | done | omega) | ((simp only [List.mem_cons, List.not_mem_nil, or_false, gz]); omega) | rfl)) only [↓gsd, gs, ev, Nat.reduceAdd, Nat.reduceEqDiff, oneC, Value.cells, Option.isNone, gt, ↓hk4]
  have hB0 := both_new (w0 := w) h2 (hf1.trans' hf2) (by omega) ((Fr.refl _ _).alloc (.cells ([.slice none 0 0] : List Value).toArray 38)) (get_alloc_new _ _)
  refine loop_intro (fun e w' => ∃ (i : Nat) (L : List Ks), i ≤ ops.length ∧ e 0 = sv ∧ e 3 = .pointer (some ⟨lb, 0, none⟩) ∧ e 4 = .pointer (some ⟨w2.heap.size, 0, none⟩) ∧ e 5 = .int .i64 i ∧ L.length ≤ i ∧ Both w w' lb w2.heap.size L) (fun e _ => ops.length - (numOf (e 5)).toNat) ?_ ?_
  · refine ⟨0, [], Nat.zero_le _, ?_⟩
    simp (maxSteps := 4000000) (disch := (first | assumption | exact List.not_mem_nil | exact Fr.refl _ _ | ((repeat (first | assumption | apply cur_alloc | apply cur_setB | apply cur_drew | apply cur_drewN)); done) | omega | (simp only [gz, Value.cells, oneC]; first | done | omega) | ((simp only [List.mem_cons, List.not_mem_nil, or_false, gz]); omega) | rfl)) only [↓gsd, gs, ev, Nat.reduceAdd, Nat.reduceEqDiff, oneC, Value.cells, Option.isNone, Int.natCast_zero]
    exact ⟨Nat.le_refl _, hB0⟩
  rintro e w4 k ⟨i, L, hi, e0, e3, e4, e5, hLi, hB⟩ hk
  have cw4 := cur w4
  by_cases hil : i < ops.length
  · have d : decide ((i : Int) < (ops.length : Int)) = true := decide_eq_true (by omega)
    obtain ⟨o, hoi⟩ : ∃ o, ops[i]? = some o := ⟨ops[i], List.getElem?_eq_getElem hil⟩
    obtain ⟨ks, hok⟩ := ho o (List.mem_of_getElem? hoi)
    obtain ⟨bb, off, cap, ob, hv1, hob, _, hrow, _⟩ := (h.frN hB.fr).read encOp6_len i o hoi
    have i0 : (0 : Int) ≤ (i : Int) := by omega
    have i1 : (i : Int) < (ops.length : Int) := by omega
    have i3 : ((i : Int) + 1).toNat = i + 1 := by omega
    simp (maxSteps := 4000000) (disch := (first | assumption | exact List.not_mem_nil | exact Fr.refl _ _ | ((repeat (first | assumption | apply cur_alloc | apply cur_setB | apply cur_drew | apply cur_drewN)); done) | omega | (simp only [gz, Value.cells, oneC]; first | done | omega) | ((simp only [List.mem_cons, List.not_mem_nil, or_false, gz]); omega) | rfl)) only [↓gsd, gs, ev, Nat.reduceAdd, Nat.reduceEqDiff, oneC, Value.cells, Option.isNone, gt, frT_self, frT_drew, frT_drew0, frT_alloc, ↓hk4, e0, e3, e4, e5, hv1, d, i0, i1, Int.toNat_natCast, hob, hrow]
    refine step_spec (hB.frN (Fr.refl _ _).drew) hok (by omega) fun w5 L' hB5 hL' => ?_
    have cw5 := cur w5
    obtain ⟨⟨W1, R1, W2, R2, a1, a2, a3, a4⟩, afr⟩ := id hB5
    obtain ⟨⟨vl, hh, hrs⟩, g1, g2⟩ := a2
    obtain ⟨ra, rc, hv⟩ := hrs.form
    rw [recsL_len] at hv
    rw [hv] at hh
    have hlt := lt_of_get _ _ hh
    simp (maxSteps := 4000000) (disch := (first | assumption | exact List.not_mem_nil | exact Fr.refl _ _ | ((repeat (first | assumption | apply cur_alloc | apply cur_setB | apply cur_drew | apply cur_drewN)); done) | omega | (simp only [gz, Value.cells, oneC]; first | done | omega) | ((simp only [List.mem_cons, List.not_mem_nil, or_false, gz]); omega) | rfl)) only [↓gsd, gs, ev, Nat.reduceAdd, Nat.reduceEqDiff, oneC, Value.cells, Option.isNone, gt, frT_self, frT_drew, frT_drew0, frT_alloc, ↓hk4, e0, e3, e4, e5, hh]
    refine last_spec a1 ?_
    have dl : decide ((L'.length : Int) = (L'.length : Int)) = true := decide_eq_true rfl
    simp (maxSteps := 4000000) (disch := (first | assumption | exact List.not_mem_nil | exact Fr.refl _ _ | ((repeat (first | assumption | apply cur_alloc | apply cur_setB | apply cur_drew | apply cur_drewN)); done) | omega | (simp only [gz, Value.cells, oneC]; first | done | omega) | ((simp only [List.mem_cons, List.not_mem_nil, or_false, gz]); omega) | rfl)) only [↓gsd, gs, ev, Nat.reduceAdd, Nat.reduceEqDiff, oneC, Value.cells, Option.isNone, gt, frT_self, frT_drew, frT_drew0, frT_alloc, ↓hk4, e0, e3, e4, e5, dl]
    refine hk _ _ ⟨i + 1, L', by omega, ?_⟩ ?_
    · simp (maxSteps := 4000000) (disch := (first | assumption | exact List.not_mem_nil | exact Fr.refl _ _ | ((repeat (first | assumption | apply cur_alloc | apply cur_setB | apply cur_drew | apply cur_drewN)); done) | omega | (simp only [gz, Value.cells, oneC]; first | done | omega) | ((simp only [List.mem_cons, List.not_mem_nil, or_false, gz]); omega) | rfl)) only [↓gsd, gs, ev, Nat.reduceAdd, Nat.reduceEqDiff, oneC, Value.cells, Option.isNone, e0, e3, e4, e5, hv1, Int.natCast_add, Int.natCast_one]
      exact ⟨by omega, hB5⟩
    · simp (maxSteps := 4000000) (disch := (first | assumption | exact List.not_mem_nil | exact Fr.refl _ _ | ((repeat (first | assumption | apply cur_alloc | apply cur_setB | apply cur_drew | apply cur_drewN)); done) | omega | (simp only [gz, Value.cells, oneC]; first | done | omega) | ((simp only [List.mem_cons, List.not_mem_nil, or_false, gz]); omega) | rfl)) only [↓gsd, gs, ev, Nat.reduceAdd, Nat.reduceEqDiff, oneC, Value.cells, Option.isNone, e5, numOf, Int.toNat_natCast, i3]; omega
  · have d : decide ((i : Int) < (ops.length : Int)) = false := decide_eq_false (by omega)
    simp (maxSteps := 4000000) (disch := (first | assumption | exact List.not_mem_nil | exact Fr.refl _ _ | ((repeat (first | assumption | apply cur_alloc | apply cur_setB | apply cur_drew | apply cur_drewN)); done) | omega | (simp only [gz, Value.cells, oneC]; first | done | omega) | ((simp only [List.mem_cons, List.not_mem_nil, or_false, gz]); omega) | rfl)) only [↓gsd, gs, ev, Nat.reduceAdd, Nat.reduceEqDiff, oneC, Value.cells, Option.isNone, gt, ↓hk4, e0, e3, e4, e5, hsv, d]
    exact hK _ hB.fr
end Go.Proofs.Ytenokheiindfkab
