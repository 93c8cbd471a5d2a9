/- check. -/
import Derived.Test.YtenokheiindfkabD1
set_option linter.unusedVariables false
set_option linter.unusedSimpArgs false
set_option maxRecDepth 10000
namespace Go.Proofs.Ytenokheiindfkab
open Go.VW
set_option maxHeartbeats 4000000 in
theorem check_spec {w : World} {v : Value} {ks : List ByteArray} {K : Value → World → Prop} (h : SlOf 1 encS w v ks) (hl : ks.length ≤ 9223372036854775807)
    (hK : ∀ w', Fr [] w w' → K (.int .i64 (chkK ks)) w') : CallsN Try.prog 19 [v] w K := by
  have cw := cur w
  obtain ⟨a, c, hv⟩ := SlOf.form h
  refine call19 ?_
  by_cases hA : ks.length = 0 ∨ 8 < ks.length
  · have hc : chkK ks = 1 := by unfold chkK; rw [if_pos hA]
    rw [hc] at hK
    by_cases h0 : ks.length = 0
    · have d0 : decide ((ks.length : Int) = 0) = true := decide_eq_true (by omega)
      simp (maxSteps := 4000000) (disch := (first | assumption | exact List.not_mem_nil | exact Fr.refl _ _ | ((repeat (first | assumption | apply cur_alloc | apply cur_setB | apply cur_drew | apply cur_drewN)); done) | omega | (simp only [gz, Value.cells, oneC]; first | done | omega) | ((simp only [List.mem_cons, List.not_mem_nil, or_false, gz]); omega) | rfl)) only [↓gsd, gs, ev, Nat.reduceAdd, Nat.reduceEqDiff, oneC, Value.cells, Option.isNone, gt, ↓hk19, hv, d0]
      exact hK _ (Fr.refl _ _)
    · have d0 : decide ((ks.length : Int) = 0) = false := decide_eq_false (by omega)
      have d1 : decide ((8 : Int) < (ks.length : Int)) = true := decide_eq_true (by omega)
      simp (maxSteps := 4000000) (disch := (first | assumption | exact List.not_mem_nil | exact Fr.refl _ _ | ((repeat (first | assumption | apply cur_alloc | apply cur_setB | apply cur_drew | apply cur_drewN)); done) | omega | (simp only [gz, Value.cells, oneC]; first | done | omega) | ((simp only [List.mem_cons, List.not_mem_nil, or_false, gz]); omega) | rfl)) only [↓gsd, gs, ev, Nat.reduceAdd, Nat.reduceEqDiff, oneC, Value.cells, Option.isNone, gt, ↓hk19, hv, d0, d1]
      exact hK _ (Fr.refl _ _)
  have d0 : decide ((ks.length : Int) = 0) = false := decide_eq_false (by omega)
  have d1 : decide ((8 : Int) < (ks.length : Int)) = false := decide_eq_false (by omega)
  simp (maxSteps := 4000000) (disch := (first | assumption | exact List.not_mem_nil | exact Fr.refl _ _ | ((repeat (first | assumption | apply cur_alloc | apply cur_setB | apply cur_drew | apply cur_drewN)); done) | omega | (simp only [gz, Value.cells, oneC]; first | done | omega) | ((simp only [List.mem_cons, List.not_mem_nil, or_false, gz]); omega) | rfl)) only [↓gsd, gs, ev, Nat.reduceAdd, Nat.reduceEqDiff, oneC, Value.cells, Option.isNone, gt, ↓hk19, hv, d0, d1]
  rw [← hv]
  refine loop_intro (fun e w' => ∃ i : Nat, i ≤ ks.length ∧ e 0 = v ∧ e 14 = v ∧ e 15 = .int .i64 ks.length ∧ e 16 = .int .i64 i ∧ (∀ j y, j < i → ks[j]? = some y → badK y = false) ∧ Fr [] w w')
    (fun e _ => ks.length - (numOf (e 16)).toNat) ?_ ?_
  · refine ⟨0, Nat.zero_le _, ?_⟩
    simp (maxSteps := 4000000) (disch := (first | assumption | exact List.not_mem_nil | exact Fr.refl _ _ | ((repeat (first | assumption | apply cur_alloc | apply cur_setB | apply cur_drew | apply cur_drewN)); done) | omega | (simp only [gz, Value.cells, oneC]; first | done | omega) | ((simp only [List.mem_cons, List.not_mem_nil, or_false, gz]); omega) | rfl)) only [↓gsd, gs, ev, Nat.reduceAdd, Nat.reduceEqDiff, oneC, Value.cells, Option.isNone, Int.natCast_zero]
    exact ⟨fun j y hj => absurd hj (by omega), Fr.refl _ _⟩
  · rintro e w1 k ⟨i, hi, e0, e14, e15, e16, hno, hf⟩ hk
    have cw1 := cur w1
    have hz1 := hf.size
    by_cases hlt : i < ks.length
    · have el : decide ((i : Int) < (ks.length : Int)) = true := decide_eq_true (by omega)
      have i0 : (0 : Int) ≤ (i : Int) := by omega
      have i1 : (i : Int) < (ks.length : Int) := by omega
      obtain ⟨x, hx⟩ : ∃ x, ks[i]? = some x := ⟨ks[i], List.getElem?_eq_getElem hlt⟩
      obtain ⟨b, off, cap, o, hvb, hob, hbl, _, hcell⟩ := (h.frN hf).read encS_len i x hx
      have hc0 := fun orig K => hcell 0 (.string x) orig K rfl
      simp only [Nat.add_zero, Nat.mul_one] at hc0
      have hbad : badK x = true → chkK ks = 1 := fun hb => by
        unfold chkK; rw [if_neg hA, if_pos (List.any_eq_true.2 ⟨x, List.mem_of_getElem? hx, hb⟩)]
      by_cases q1 : x = ⟨#[]⟩
      · have dq : decide (x = ⟨#[]⟩) = true := decide_eq_true q1
        rw [hbad (by unfold badK; rw [dq]; rfl)] at hK
        simp (maxSteps := 4000000) (disch := (first | assumption | exact List.not_mem_nil | exact Fr.refl _ _ | ((repeat (first | assumption | apply cur_alloc | apply cur_setB | apply cur_drew | apply cur_drewN)); done) | omega | (simp only [gz, Value.cells, oneC]; first | done | omega) | ((simp only [List.mem_cons, List.not_mem_nil, or_false, gz]); omega) | rfl)) only [↓gsd, gs, ev, Nat.reduceAdd, Nat.reduceEqDiff, oneC, Value.cells, Option.isNone, gt, ↓hk19, e0, e14, e15, e16, el, hvb, i0, i1, Int.toNat_natCast, Nat.mul_one, hob, hc0, dq]
        exact hK _ hf
      have dq : decide (x = ⟨#[]⟩) = false := decide_eq_false q1
      by_cases q2 : 32 < x.size
      · have dq2 : decide ((32 : Int) < (x.size : Int)) = true := decide_eq_true (by omega)
        rw [hbad (by unfold badK; rw [decide_eq_true q2, Bool.or_true])] at hK
        simp (maxSteps := 4000000) (disch := (first | assumption | exact List.not_mem_nil | exact Fr.refl _ _ | ((repeat (first | assumption | apply cur_alloc | apply cur_setB | apply cur_drew | apply cur_drewN)); done) | omega | (simp only [gz, Value.cells, oneC]; first | done | omega) | ((simp only [List.mem_cons, List.not_mem_nil, or_false, gz]); omega) | rfl)) only [↓gsd, gs, ev, Nat.reduceAdd, Nat.reduceEqDiff, oneC, Value.cells, Option.isNone, gt, ↓hk19, e0, e14, e15, e16, el, hvb, i0, i1, Int.toNat_natCast, Nat.mul_one, hob, hc0, dq, dq2]
        exact hK _ hf
      have dq2 : decide ((32 : Int) < (x.size : Int)) = false := decide_eq_false (by omega)
      simp (maxSteps := 4000000) (disch := (first | assumption | exact List.not_mem_nil | exact Fr.refl _ _ | ((repeat (first | assumption | apply cur_alloc | apply cur_setB | apply cur_drew | apply cur_drewN)); done) | omega | (simp only [gz, Value.cells, oneC]; first | done | omega) | ((simp only [List.mem_cons, List.not_mem_nil, or_false, gz]); omega) | rfl)) only [↓gsd, gs, ev, Nat.reduceAdd, Nat.reduceEqDiff, oneC, Value.cells, Option.isNone, gt, ↓hk19, e0, e14, e15, e16, el, hvb, i0, i1, Int.toNat_natCast, Nat.mul_one, hob, hc0, dq, dq2]
      refine hk _ _ ⟨i + 1, by omega, ?_⟩ ?_
      · simp (maxSteps := 4000000) (disch := (first | assumption | exact List.not_mem_nil | exact Fr.refl _ _ | ((repeat (first | assumption | apply cur_alloc | apply cur_setB | apply cur_drew | apply cur_drewN)); done) | omega | (simp only [gz, Value.cells, oneC]; first | done | omega) | ((simp only [List.mem_cons, List.not_mem_nil, or_false, gz]); omega) | rfl)) only [↓gsd, gs, ev, Nat.reduceAdd, Nat.reduceEqDiff, oneC, Value.cells, Option.isNone, e0, e14, e15, e16, hvb, Int.natCast_add, Int.natCast_one]
        refine ⟨fun j y hj hy => ?_, hf⟩
        by_cases hji : j = i
        · subst hji; rw [hx] at hy; cases hy
          unfold badK; rw [dq, decide_eq_false q2]; rfl
        · exact hno j y (by omega) hy
      · have e3 : ((i : Int) + 1).toNat = i + 1 := by omega
        simp (maxSteps := 4000000) (disch := (first | assumption | exact List.not_mem_nil | exact Fr.refl _ _ | ((repeat (first | assumption | apply cur_alloc | apply cur_setB | apply cur_drew | apply cur_drewN)); done) | omega | (simp only [gz, Value.cells, oneC]; first | done | omega) | ((simp only [List.mem_cons, List.not_mem_nil, or_false, gz]); omega) | rfl)) only [↓gsd, gs, ev, Nat.reduceAdd, Nat.reduceEqDiff, oneC, Value.cells, Option.isNone, e16, numOf, Int.toNat_natCast, e3]; omega
    · have el : decide ((i : Int) < (ks.length : Int)) = false := decide_eq_false (by omega)
      have hnb : ks.any badK = false := by
        rw [List.any_eq_false]
        intro x hx
        obtain ⟨j, hj⟩ := List.getElem?_of_mem hx
        rw [hno j x (by have := (List.getElem?_eq_some_iff.1 hj).1; omega) hj]; simp
      simp (maxSteps := 4000000) (disch := (first | assumption | exact List.not_mem_nil | exact Fr.refl _ _ | ((repeat (first | assumption | apply cur_alloc | apply cur_setB | apply cur_drew | apply cur_drewN)); done) | omega | (simp only [gz, Value.cells, oneC]; first | done | omega) | ((simp only [List.mem_cons, List.not_mem_nil, or_false, gz]); omega) | rfl)) only [↓gsd, gs, ev, Nat.reduceAdd, Nat.reduceEqDiff, oneC, Value.cells, Option.isNone, gt, ↓hk19, e0, e14, e15, e16, el]
      refine call30 ?_
      simp (maxSteps := 4000000) (disch := (first | assumption | exact List.not_mem_nil | exact Fr.refl _ _ | ((repeat (first | assumption | apply cur_alloc | apply cur_setB | apply cur_drew | apply cur_drewN)); done) | omega | (simp only [gz, Value.cells, oneC]; first | done | omega) | ((simp only [List.mem_cons, List.not_mem_nil, or_false, gz]); omega) | rfl)) only [↓gsd, gs, ev, Nat.reduceAdd, Nat.reduceEqDiff, oneC, Value.cells, Option.isNone, gt, ↓hk30, hv]
      have h2 := h.frN hf
      rw [hv] at h2
      refine sorted_spec h2 (by omega) fun v2 w2 hown2 hf2 hfr2 => ?_
      have cw2 := cur w2
      have hz2 := hf2.size
      have hsl : (sortL (ks.map bl)).length = ks.length := by simp [sortL]
      rw [← hsl] at hown2
      simp (maxSteps := 4000000) (disch := (first | assumption | exact List.not_mem_nil | exact Fr.refl _ _ | ((repeat (first | assumption | apply cur_alloc | apply cur_setB | apply cur_drew | apply cur_drewN)); done) | omega | (simp only [gz, Value.cells, oneC]; first | done | omega) | ((simp only [List.mem_cons, List.not_mem_nil, or_false, gz]); omega) | rfl)) only [↓gsd, gs, ev, Nat.reduceAdd, Nat.reduceEqDiff, oneC, Value.cells, Option.isNone, gt, ↓hk19, e0, e14, e15, e16]
      refine compact_spec hown2 (by omega) fun a3 c3 w3 hf3 => ?_
      have cw3 := cur w3
      have hz3 := hf3.size
      have hf23 : Fr [] w1 w3 := hf2.trans hf3 fun x hx => by
        unfold blkL at hx
        split at hx
        · rename_i b hb
          simp at hx
          exact .inr (hx ▸ hfr2 b hb)
        · simp at hx
      by_cases hn : ks.Nodup
      · have d2 : decide (((Lib.compact (sortL (ks.map bl))).length : Int) < (ks.length : Int)) = false := decide_eq_false (by
          intro hh; exact (dup_iff ks).1 (by omega) hn)
        have hc : chkK ks = 0 := by unfold chkK; rw [if_neg hA, if_neg (by simp [hnb]), if_pos hn]
        rw [hc] at hK
        simp (maxSteps := 4000000) (disch := (first | assumption | exact List.not_mem_nil | exact Fr.refl _ _ | ((repeat (first | assumption | apply cur_alloc | apply cur_setB | apply cur_drew | apply cur_drewN)); done) | omega | (simp only [gz, Value.cells, oneC]; first | done | omega) | ((simp only [List.mem_cons, List.not_mem_nil, or_false, gz]); omega) | rfl)) only [↓gsd, gs, ev, Nat.reduceAdd, Nat.reduceEqDiff, oneC, Value.cells, Option.isNone, gt, ↓hk19, e0, hv, d2]
        exact hK _ (hf.trans' hf23)
      · have d2 : decide (((Lib.compact (sortL (ks.map bl))).length : Int) < (ks.length : Int)) = true := decide_eq_true (by
          have := (dup_iff ks).2 hn; omega)
        have hc : chkK ks = 22 := by unfold chkK; rw [if_neg hA, if_neg (by simp [hnb]), if_neg hn]
        rw [hc] at hK
        simp (maxSteps := 4000000) (disch := (first | assumption | exact List.not_mem_nil | exact Fr.refl _ _ | ((repeat (first | assumption | apply cur_alloc | apply cur_setB | apply cur_drew | apply cur_drewN)); done) | omega | (simp only [gz, Value.cells, oneC]; first | done | omega) | ((simp only [List.mem_cons, List.not_mem_nil, or_false, gz]); omega) | rfl)) only [↓gsd, gs, ev, Nat.reduceAdd, Nat.reduceEqDiff, oneC, Value.cells, Option.isNone, gt, ↓hk19, e0, hv, d2]
        exact hK _ (hf.trans' hf23)
end Go.Proofs.Ytenokheiindfkab
