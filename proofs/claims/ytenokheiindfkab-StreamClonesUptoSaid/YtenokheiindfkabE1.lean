/- The reference: Check, Has, Same, SameAll. -/
import Derived.Test.YtenokheiindfkabD8
import Derived.Test.YtenokheiindfkabHX
set_option linter.unusedVariables false
set_option linter.unusedSimpArgs false
set_option maxRecDepth 10000
namespace Go.Proofs.Ytenokheiindfkab
open Go.VW
theorem size0 {x : ByteArray} (h : x.size = 0) : x = ⟨#[]⟩ := by
  cases x with
  | mk d =>
    have : d.size = 0 := h
    rw [Array.eq_empty_of_size_eq_zero this]
theorem badK_iff (x : ByteArray) : badK x = true ↔ x.size < 1 ∨ 32 < x.size := by
  unfold badK
  simp only [Bool.or_eq_true, decide_eq_true_eq]
  constructor
  · rintro (h | h)
    · left; rw [h]; decide
    · exact .inr h
  · rintro (h | h)
    · exact .inl (size0 (by omega))
    · exact .inr h
theorem chkK_bad {ks : Ks} (h0 : ¬ (ks.length = 0 ∨ 8 < ks.length)) {x : ByteArray} (hx : x ∈ ks) (hb : badK x = true) : chkK ks = 1 := by
  unfold chkK
  rw [if_neg h0, if_pos (List.any_eq_true.2 ⟨x, hx, hb⟩)]
theorem chkK_end {ks : Ks} (h0 : ¬ (ks.length = 0 ∨ 8 < ks.length)) (hb : ∀ j y, j < ks.length → ks[j]? = some y → badK y = false) : chkK ks = if ks.Nodup then 0 else 22 := by
  unfold chkK
  have : ks.any badK = false := by
    rw [List.any_eq_false]
    intro x hx
    obtain ⟨j, hj⟩ := List.getElem?_of_mem hx
    rw [hb j x (List.getElem?_eq_some_iff.1 hj).1 hj]; simp
  rw [if_neg h0, if_neg (by simp [this])]
theorem nodup_of {ks : Ks} (h : ∀ j k y z, k < j → j < ks.length → ks[j]? = some y → ks[k]? = some z → z ≠ y) : ks.Nodup := by
  rw [List.Nodup, List.pairwise_iff_getElem]
  intro i j hi hj hij
  exact h j i _ _ hij hj (List.getElem?_eq_getElem hj) (List.getElem?_eq_getElem hi)
theorem not_nodup {ks : Ks} {j k : Nat} {y : ByteArray} (hkj : k < j) (hj : ks[j]? = some y) (hk : ks[k]? = some y) : ¬ ks.Nodup := by
  intro h
  rw [List.Nodup, List.pairwise_iff_getElem] at h
  obtain ⟨h1, h2⟩ := List.getElem?_eq_some_iff.1 hj
  obtain ⟨h3, h4⟩ := List.getElem?_eq_some_iff.1 hk
  exact h k j h3 h1 hkj (by rw [h2, h4])
set_option maxHeartbeats 8000000 in
theorem rcheck_spec {w : World} {v : Value} {ks : Ks} {K : Value → World → Prop} (h : SlOf 1 encS w v ks) (hl : ks.length ≤ 9223372036854775807)
    (hK : ∀ w', Fr [] w w' → K (.int .i64 (chkK ks)) w') : CallsN Try.prog 27 [v] w K := by
  have cw := cur w
  obtain ⟨a, c, hv⟩ := SlOf.form h
  refine call27 ?_
  by_cases hA : ks.length = 0 ∨ 8 < ks.length
  · have hc : chkK ks = 1 := by unfold chkK; rw [if_pos hA]
    rw [hc] at hK
    by_cases h0 : ks.length = 0
    · have d0 : decide ((ks.length : Int) < 1) = true := decide_eq_true (by omega)
      simp (maxSteps := 4000000) (disch := (first | assumption | exact List.not_mem_nil | exact Fr.refl _ _ | ((repeat (first | assumption | apply cur_alloc | apply cur_setB | apply cur_drew | apply cur_drewN)); done) | omega | (simp only [gz, Value.cells, oneC]; first | done | omega) | ((simp only [List.mem_cons, List.not_mem_nil, or_false, gz]); omega) | rfl)) only [↓gsd, gs, ev, Nat.reduceAdd, Nat.reduceEqDiff, oneC, Value.cells, Option.isNone, gt, ↓hk27, hv, d0]
      exact hK _ (Fr.refl _ _)
    · have d0 : decide ((ks.length : Int) < 1) = false := decide_eq_false (by omega)
      have d1 : decide ((8 : Int) < (ks.length : Int)) = true := decide_eq_true (by omega)
      simp (maxSteps := 4000000) (disch := (first | assumption | exact List.not_mem_nil | exact Fr.refl _ _ | ((repeat (first | assumption | apply cur_alloc | apply cur_setB | apply cur_drew | apply cur_drewN)); done) | omega | (simp only [gz, Value.cells, oneC]; first | done | omega) | ((simp only [List.mem_cons, List.not_mem_nil, or_false, gz]); omega) | rfl)) only [↓gsd, gs, ev, Nat.reduceAdd, Nat.reduceEqDiff, oneC, Value.cells, Option.isNone, gt, ↓hk27, hv, d0, d1]
      exact hK _ (Fr.refl _ _)
  have d0 : decide ((ks.length : Int) < 1) = false := decide_eq_false (by omega)
  have d1 : decide ((8 : Int) < (ks.length : Int)) = false := decide_eq_false (by omega)
  simp (maxSteps := 4000000) (disch := (first | assumption | exact List.not_mem_nil | exact Fr.refl _ _ | ((repeat (first | assumption | apply cur_alloc | apply cur_setB | apply cur_drew | apply cur_drewN)); done) | omega | (simp only [gz, Value.cells, oneC]; first | done | omega) | ((simp only [List.mem_cons, List.not_mem_nil, or_false, gz]); omega) | rfl)) only [↓gsd, gs, ev, Nat.reduceAdd, Nat.reduceEqDiff, oneC, Value.cells, Option.isNone, gt, ↓hk27, hv, d0, d1]
  rw [← hv]
  refine loop_intro (fun e w' => ∃ i : Nat, i ≤ ks.length ∧ e 0 = v ∧ e 3 = .int .i64 i ∧ (∀ j y, j < i → ks[j]? = some y → badK y = false) ∧ Fr [] w w')
    (fun e _ => ks.length - (numOf (e 3)).toNat) ?_ ?_
  · refine ⟨0, Nat.zero_le _, ?_⟩
    simp (maxSteps := 4000000) (disch := (first | assumption | exact List.not_mem_nil | exact Fr.refl _ _ | ((repeat (first | assumption | apply cur_alloc | apply cur_setB | apply cur_drew | apply cur_drewN)); done) | omega | (simp only [gz, Value.cells, oneC]; first | done | omega) | ((simp only [List.mem_cons, List.not_mem_nil, or_false, gz]); omega) | rfl)) only [↓gsd, gs, ev, Nat.reduceAdd, Nat.reduceEqDiff, oneC, Value.cells, Option.isNone, Int.natCast_zero]
    exact ⟨fun j y hj => absurd hj (by omega), Fr.refl _ _⟩
  rintro e w1 k ⟨i, hi, e0, e3, hno, hf⟩ hk
  have cw1 := cur w1
  have hz1 := hf.size
  by_cases hlt : i < ks.length
  · have el : decide ((i : Int) < (ks.length : Int)) = true := decide_eq_true (by omega)
    have i0 : (0 : Int) ≤ (i : Int) := by omega
    have i1 : (i : Int) < (ks.length : Int) := by omega
    have i3 : ((i : Int) + 1).toNat = i + 1 := by omega
    obtain ⟨x, hx⟩ : ∃ x, ks[i]? = some x := ⟨ks[i], List.getElem?_eq_getElem hlt⟩
    obtain ⟨b, off, cap, o, hvb, hob, hbl, _, hcell⟩ := (h.frN hf).read encS_len i x hx
    have hc0 := fun orig K => hcell 0 (.string x) orig K rfl
    simp only [Nat.add_zero, Nat.mul_one] at hc0
    by_cases q1 : x.size < 1
    · have dq : decide ((x.size : Int) < 1) = true := decide_eq_true (by omega)
      rw [chkK_bad hA (List.mem_of_getElem? hx) ((badK_iff x).2 (.inl q1))] at hK
      simp (maxSteps := 4000000) (disch := (first | assumption | exact List.not_mem_nil | exact Fr.refl _ _ | ((repeat (first | assumption | apply cur_alloc | apply cur_setB | apply cur_drew | apply cur_drewN)); done) | omega | (simp only [gz, Value.cells, oneC]; first | done | omega) | ((simp only [List.mem_cons, List.not_mem_nil, or_false, gz]); omega) | rfl)) only [↓gsd, gs, ev, Nat.reduceAdd, Nat.reduceEqDiff, oneC, Value.cells, Option.isNone, gt, ↓hk27, e0, e3, el, hvb, i0, i1, Int.toNat_natCast, Nat.mul_one, hob, hc0, dq]
      exact hK _ hf
    have dq : decide ((x.size : Int) < 1) = false := decide_eq_false (by omega)
    by_cases q2 : 32 < x.size
    · have dq2 : decide ((32 : Int) < (x.size : Int)) = true := decide_eq_true (by omega)
      rw [chkK_bad hA (List.mem_of_getElem? hx) ((badK_iff x).2 (.inr q2))] at hK
      simp (maxSteps := 4000000) (disch := (first | assumption | exact List.not_mem_nil | exact Fr.refl _ _ | ((repeat (first | assumption | apply cur_alloc | apply cur_setB | apply cur_drew | apply cur_drewN)); done) | omega | (simp only [gz, Value.cells, oneC]; first | done | omega) | ((simp only [List.mem_cons, List.not_mem_nil, or_false, gz]); omega) | rfl)) only [↓gsd, gs, ev, Nat.reduceAdd, Nat.reduceEqDiff, oneC, Value.cells, Option.isNone, gt, ↓hk27, e0, e3, el, hvb, i0, i1, Int.toNat_natCast, Nat.mul_one, hob, hc0, dq, dq2]
      exact hK _ hf
    have dq2 : decide ((32 : Int) < (x.size : Int)) = false := decide_eq_false (by omega)
    simp (maxSteps := 4000000) (disch := (first | assumption | exact List.not_mem_nil | exact Fr.refl _ _ | ((repeat (first | assumption | apply cur_alloc | apply cur_setB | apply cur_drew | apply cur_drewN)); done) | omega | (simp only [gz, Value.cells, oneC]; first | done | omega) | ((simp only [List.mem_cons, List.not_mem_nil, or_false, gz]); omega) | rfl)) only [↓gsd, gs, ev, Nat.reduceAdd, Nat.reduceEqDiff, oneC, Value.cells, Option.isNone, gt, ↓hk27, e0, e3, el, hvb, i0, i1, Int.toNat_natCast, Nat.mul_one, hob, hc0, dq, dq2]
    refine hk _ _ ⟨i + 1, by omega, ?_⟩ ?_
    · simp (maxSteps := 4000000) (disch := (first | assumption | exact List.not_mem_nil | exact Fr.refl _ _ | ((repeat (first | assumption | apply cur_alloc | apply cur_setB | apply cur_drew | apply cur_drewN)); done) | omega | (simp only [gz, Value.cells, oneC]; first | done | omega) | ((simp only [List.mem_cons, List.not_mem_nil, or_false, gz]); omega) | rfl)) only [↓gsd, gs, ev, Nat.reduceAdd, Nat.reduceEqDiff, oneC, Value.cells, Option.isNone, e0, e3, hvb, Int.natCast_add, Int.natCast_one]
      refine ⟨fun j y hj hy => ?_, hf⟩
      by_cases hji : j = i
      · subst hji; rw [hx] at hy; cases hy
        cases hb : badK x with
        | false => rfl
        | true => exact absurd ((badK_iff x).1 hb) (by omega)
      · exact hno j y (by omega) hy
    · simp (maxSteps := 4000000) (disch := (first | assumption | exact List.not_mem_nil | exact Fr.refl _ _ | ((repeat (first | assumption | apply cur_alloc | apply cur_setB | apply cur_drew | apply cur_drewN)); done) | omega | (simp only [gz, Value.cells, oneC]; first | done | omega) | ((simp only [List.mem_cons, List.not_mem_nil, or_false, gz]); omega) | rfl)) only [↓gsd, gs, ev, Nat.reduceAdd, Nat.reduceEqDiff, oneC, Value.cells, Option.isNone, e3, numOf, Int.toNat_natCast, i3]; omega
  have el : decide ((i : Int) < (ks.length : Int)) = false := decide_eq_false (by omega)
  have hend := chkK_end hA (fun j y hj => hno j y (by omega))
  rw [hend] at hK
  simp (maxSteps := 4000000) (disch := (first | assumption | exact List.not_mem_nil | exact Fr.refl _ _ | ((repeat (first | assumption | apply cur_alloc | apply cur_setB | apply cur_drew | apply cur_drewN)); done) | omega | (simp only [gz, Value.cells, oneC]; first | done | omega) | ((simp only [List.mem_cons, List.not_mem_nil, or_false, gz]); omega) | rfl)) only [↓gsd, gs, ev, Nat.reduceAdd, Nat.reduceEqDiff, oneC, Value.cells, Option.isNone, gt, ↓hk27, e0, e3, hv, el]
  refine loop_intro (fun e w' => ∃ i : Nat, i ≤ ks.length ∧ e 0 = v ∧ e 4 = .int .i64 i ∧ (∀ j k y z, k < j → j < i → ks[j]? = some y → ks[k]? = some z → z ≠ y) ∧ Fr [] w w')
    (fun e _ => ks.length - (numOf (e 4)).toNat) ?_ ?_
  · refine ⟨0, Nat.zero_le _, ?_⟩
    simp (maxSteps := 4000000) (disch := (first | assumption | exact List.not_mem_nil | exact Fr.refl _ _ | ((repeat (first | assumption | apply cur_alloc | apply cur_setB | apply cur_drew | apply cur_drewN)); done) | omega | (simp only [gz, Value.cells, oneC]; first | done | omega) | ((simp only [List.mem_cons, List.not_mem_nil, or_false, gz]); omega) | rfl)) only [↓gsd, gs, ev, Nat.reduceAdd, Nat.reduceEqDiff, oneC, Value.cells, Option.isNone, e0, Int.natCast_zero]
    exact ⟨fun j k y z _ hj => absurd hj (by omega), hf⟩
  rintro e w2 k ⟨i, hi, e0, e4, hno2, hf2⟩ hk
  have cw2 := cur w2
  by_cases hlt : i < ks.length
  · have el : decide ((i : Int) < (ks.length : Int)) = true := decide_eq_true (by omega)
    have i0 : (0 : Int) ≤ (i : Int) := by omega
    have i1 : (i : Int) < (ks.length : Int) := by omega
    have i3 : ((i : Int) + 1).toNat = i + 1 := by omega
    obtain ⟨x, hx⟩ : ∃ x, ks[i]? = some x := ⟨ks[i], List.getElem?_eq_getElem hlt⟩
    have E4 := e4
    simp (maxSteps := 4000000) (disch := (first | assumption | exact List.not_mem_nil | exact Fr.refl _ _ | ((repeat (first | assumption | apply cur_alloc | apply cur_setB | apply cur_drew | apply cur_drewN)); done) | omega | (simp only [gz, Value.cells, oneC]; first | done | omega) | ((simp only [List.mem_cons, List.not_mem_nil, or_false, gz]); omega) | rfl)) only [↓gsd, gs, ev, Nat.reduceAdd, Nat.reduceEqDiff, oneC, Value.cells, Option.isNone, gt, ↓hk27, e0, e4, el, hv]
    refine loop_intro (fun e w' => ∃ j : Nat, j ≤ i ∧ e 0 = v ∧ e 4 = .int .i64 i ∧ e 5 = .int .i64 j ∧ (∀ k z, k < j → ks[k]? = some z → z ≠ x) ∧ Fr [] w w')
      (fun e _ => i - (numOf (e 5)).toNat) ?_ ?_
    · refine ⟨0, Nat.zero_le _, ?_⟩
      simp (maxSteps := 4000000) (disch := (first | assumption | exact List.not_mem_nil | exact Fr.refl _ _ | ((repeat (first | assumption | apply cur_alloc | apply cur_setB | apply cur_drew | apply cur_drewN)); done) | omega | (simp only [gz, Value.cells, oneC]; first | done | omega) | ((simp only [List.mem_cons, List.not_mem_nil, or_false, gz]); omega) | rfl)) only [↓gsd, gs, ev, Nat.reduceAdd, Nat.reduceEqDiff, oneC, Value.cells, Option.isNone, e0, e4, Int.natCast_zero]
      exact ⟨fun k z hj => absurd hj (by omega), hf2⟩
    rintro e w3 k' ⟨j, hj, e0, e4, e5, hno3, hf3⟩ hk'
    have cw3 := cur w3
    by_cases hjl : j < i
    · have dj : decide ((j : Int) < (i : Int)) = true := decide_eq_true (by omega)
      have j0 : (0 : Int) ≤ (j : Int) := by omega
      have j1 : (j : Int) < (ks.length : Int) := by omega
      have j3 : ((j : Int) + 1).toNat = j + 1 := by omega
      obtain ⟨y, hy⟩ : ∃ y, ks[j]? = some y := ⟨ks[j]'(by omega), List.getElem?_eq_getElem (by omega)⟩
      obtain ⟨b, off, cap, o, hvb, hob, hbl, _, hcell⟩ := (h.frN hf3).read encS_len i x hx
      have hc0 := fun orig K => hcell 0 (.string x) orig K rfl
      simp only [Nat.add_zero, Nat.mul_one] at hc0
      obtain ⟨b2, off2, cap2, o2, hvb2, hob2, hbl2, _, hcell2⟩ := (h.frN hf3).read encS_len j y hy
      have hc2 := fun orig K => hcell2 0 (.string y) orig K rfl
      simp only [Nat.add_zero, Nat.mul_one] at hc2
      rw [hvb] at hvb2
      simp only [Value.slice.injEq, Option.some.injEq, Addr.mk.injEq] at hvb2
      obtain ⟨⟨rfl, rfl, _⟩, _, rfl⟩ := hvb2
      have : o = o2 := Option.some.inj (hob.symm.trans hob2)
      subst this
      by_cases hyx : y = x
      · have dy : decide (y = x) = true := decide_eq_true hyx
        subst hyx
        rw [if_neg (not_nodup hjl hx hy)] at hK
        simp (maxSteps := 4000000) (disch := (first | assumption | exact List.not_mem_nil | exact Fr.refl _ _ | ((repeat (first | assumption | apply cur_alloc | apply cur_setB | apply cur_drew | apply cur_drewN)); done) | omega | (simp only [gz, Value.cells, oneC]; first | done | omega) | ((simp only [List.mem_cons, List.not_mem_nil, or_false, gz]); omega) | rfl)) only [↓gsd, gs, ev, Nat.reduceAdd, Nat.reduceEqDiff, oneC, Value.cells, Option.isNone, gt, frT_self, frT_drew, frT_drew0, frT_alloc, ↓hk27, e0, e4, e5, dj, hvb, i0, i1, j0, j1, Int.toNat_natCast, Nat.mul_one, hob, hc0, hc2, dy]
        exact hK _ hf3.drew
      · have dy : decide (y = x) = false := decide_eq_false hyx
        simp (maxSteps := 4000000) (disch := (first | assumption | exact List.not_mem_nil | exact Fr.refl _ _ | ((repeat (first | assumption | apply cur_alloc | apply cur_setB | apply cur_drew | apply cur_drewN)); done) | omega | (simp only [gz, Value.cells, oneC]; first | done | omega) | ((simp only [List.mem_cons, List.not_mem_nil, or_false, gz]); omega) | rfl)) only [↓gsd, gs, ev, Nat.reduceAdd, Nat.reduceEqDiff, oneC, Value.cells, Option.isNone, gt, frT_self, frT_drew, frT_drew0, frT_alloc, ↓hk27, e0, e4, e5, dj, hvb, i0, i1, j0, j1, Int.toNat_natCast, Nat.mul_one, hob, hc0, hc2, dy]
        refine hk' _ _ ⟨j + 1, by omega, ?_⟩ ?_
        · simp (maxSteps := 4000000) (disch := (first | assumption | exact List.not_mem_nil | exact Fr.refl _ _ | ((repeat (first | assumption | apply cur_alloc | apply cur_setB | apply cur_drew | apply cur_drewN)); done) | omega | (simp only [gz, Value.cells, oneC]; first | done | omega) | ((simp only [List.mem_cons, List.not_mem_nil, or_false, gz]); omega) | rfl)) only [↓gsd, gs, ev, Nat.reduceAdd, Nat.reduceEqDiff, oneC, Value.cells, Option.isNone, e0, e4, e5, hvb, Int.natCast_add, Int.natCast_one]
          refine ⟨fun k z hkj hz => ?_, hf3.drew⟩
          by_cases hkj' : k = j
          · subst hkj'; rw [hy] at hz; cases hz; exact hyx
          · exact hno3 k z (by omega) hz
        · simp (maxSteps := 4000000) (disch := (first | assumption | exact List.not_mem_nil | exact Fr.refl _ _ | ((repeat (first | assumption | apply cur_alloc | apply cur_setB | apply cur_drew | apply cur_drewN)); done) | omega | (simp only [gz, Value.cells, oneC]; first | done | omega) | ((simp only [List.mem_cons, List.not_mem_nil, or_false, gz]); omega) | rfl)) only [↓gsd, gs, ev, Nat.reduceAdd, Nat.reduceEqDiff, oneC, Value.cells, Option.isNone, e5, numOf, Int.toNat_natCast, j3]; omega
    · have dj : decide ((j : Int) < (i : Int)) = false := decide_eq_false (by omega)
      simp (maxSteps := 4000000) (disch := (first | assumption | exact List.not_mem_nil | exact Fr.refl _ _ | ((repeat (first | assumption | apply cur_alloc | apply cur_setB | apply cur_drew | apply cur_drewN)); done) | omega | (simp only [gz, Value.cells, oneC]; first | done | omega) | ((simp only [List.mem_cons, List.not_mem_nil, or_false, gz]); omega) | rfl)) only [↓gsd, gs, ev, Nat.reduceAdd, Nat.reduceEqDiff, oneC, Value.cells, Option.isNone, gt, ↓hk27, e0, e4, e5, dj]
      refine hk _ _ ⟨i + 1, by omega, ?_⟩ ?_
      · simp (maxSteps := 4000000) (disch := (first | assumption | exact List.not_mem_nil | exact Fr.refl _ _ | ((repeat (first | assumption | apply cur_alloc | apply cur_setB | apply cur_drew | apply cur_drewN)); done) | omega | (simp only [gz, Value.cells, oneC]; first | done | omega) | ((simp only [List.mem_cons, List.not_mem_nil, or_false, gz]); omega) | rfl)) only [↓gsd, gs, ev, Nat.reduceAdd, Nat.reduceEqDiff, oneC, Value.cells, Option.isNone, e0, e4, e5, Int.natCast_add, Int.natCast_one]
        refine ⟨fun j' k y z hkj hj' hy hz => ?_, hf3⟩
        by_cases hji : j' = i
        · subst hji; rw [hx] at hy; cases hy
          exact hno3 k z (by omega) hz
        · exact hno2 j' k y z hkj (by omega) hy hz
      · simp (maxSteps := 4000000) (disch := (first | assumption | exact List.not_mem_nil | exact Fr.refl _ _ | ((repeat (first | assumption | apply cur_alloc | apply cur_setB | apply cur_drew | apply cur_drewN)); done) | omega | (simp only [gz, Value.cells, oneC]; first | done | omega) | ((simp only [List.mem_cons, List.not_mem_nil, or_false, gz]); omega) | rfl)) only [↓gsd, gs, ev, Nat.reduceAdd, Nat.reduceEqDiff, oneC, Value.cells, Option.isNone, e4, E4, numOf, Int.toNat_natCast, i3]; omega
  · have el : decide ((i : Int) < (ks.length : Int)) = false := decide_eq_false (by omega)
    rw [if_pos (nodup_of fun j k y z hkj hj => hno2 j k y z hkj (by omega))] at hK
    simp (maxSteps := 4000000) (disch := (first | assumption | exact List.not_mem_nil | exact Fr.refl _ _ | ((repeat (first | assumption | apply cur_alloc | apply cur_setB | apply cur_drew | apply cur_drewN)); done) | omega | (simp only [gz, Value.cells, oneC]; first | done | omega) | ((simp only [List.mem_cons, List.not_mem_nil, or_false, gz]); omega) | rfl)) only [↓gsd, gs, ev, Nat.reduceAdd, Nat.reduceEqDiff, oneC, Value.cells, Option.isNone, gt, ↓hk27, e0, e4, hv, el]
    exact hK _ hf2
theorem has_spec {w : World} {r : Rc} {ks : Ks} {s : ByteArray} {K : Value → World → Prop} (h : SlOf 1 encS w r.kv ks) (hl : ks.length ≤ 9223372036854775807)
    (hK : ∀ w', Fr [] w w' → K (.bool (ks.any fun k => decide (k = s))) w') : CallsN Try.prog 33 [r.v, .string s] w K := by
  have cw := cur w
  obtain ⟨rn, ra, rl, rc⟩ := r
  obtain ⟨a, c, hv⟩ := SlOf.form h
  simp only [Rc.kv, Value.slice.injEq] at hv
  obtain ⟨rfl, rfl, rfl⟩ := hv
  refine call33 ?_
  unfold Rc.v encRc
  simp (maxSteps := 4000000) (disch := (first | assumption | exact List.not_mem_nil | exact Fr.refl _ _ | ((repeat (first | assumption | apply cur_alloc | apply cur_setB | apply cur_drew | apply cur_drewN)); done) | omega | (simp only [gz, Value.cells, oneC]; first | done | omega) | ((simp only [List.mem_cons, List.not_mem_nil, or_false, gz]); omega) | rfl)) only [↓gsd, gs, ev, Nat.reduceAdd, Nat.reduceEqDiff, oneC, Value.cells, Option.isNone, gt, ↓hk33]
  refine loop_intro (fun e w' => ∃ i : Nat, i ≤ ks.length ∧ e 1 = .string s ∧ e 2 = .pointer (some ⟨w.heap.size, 0, none⟩) ∧ e 5 = .int .i64 i ∧ (∀ j y, j < i → ks[j]? = some y → y ≠ s) ∧
      w'.heap[w.heap.size]? = some (.cells ([.int .i64 rn, .slice ra ks.length rc] : List Value).toArray 47 (0, 0)) ∧ Fr [] w w') (fun e _ => ks.length - (numOf (e 5)).toNat) ?_ ?_
  · refine ⟨0, Nat.zero_le _, ?_⟩
    simp (maxSteps := 4000000) (disch := (first | assumption | exact List.not_mem_nil | exact Fr.refl _ _ | ((repeat (first | assumption | apply cur_alloc | apply cur_setB | apply cur_drew | apply cur_drewN)); done) | omega | (simp only [gz, Value.cells, oneC]; first | done | omega) | ((simp only [List.mem_cons, List.not_mem_nil, or_false, gz]); omega) | rfl)) only [↓gsd, gs, ev, Nat.reduceAdd, Nat.reduceEqDiff, oneC, Value.cells, Option.isNone, Int.natCast_zero]
    exact ⟨fun j y hj => absurd hj (by omega), by (repeat (first | exact Fr.refl _ _ | assumption | with_reducible apply Fr.alloc | with_reducible apply Fr.drew | with_reducible refine Fr.setB ?_ _ _ (.inr (by first | omega | (simp only [gz]; omega))) | with_reducible refine Fr.setB ?_ _ _ (.inl (by first | assumption | simp)) | with_reducible refine Fr.trans' ?_ (by assumption)))⟩
  rintro e w1 k ⟨i, hi, e1, e2, e5, hno, hg, hf⟩ hk
  have cw1 := cur w1
  have hz1 := hf.size
  have hlt := lt_of_get _ _ hg
  by_cases hil : i < ks.length
  · have el : decide ((i : Int) < (ks.length : Int)) = true := decide_eq_true (by omega)
    have i0 : (0 : Int) ≤ (i : Int) := by omega
    have i1 : (i : Int) < (ks.length : Int) := by omega
    have i3 : ((i : Int) + 1).toNat = i + 1 := by omega
    obtain ⟨x, hx⟩ : ∃ x, ks[i]? = some x := ⟨ks[i], List.getElem?_eq_getElem hil⟩
    obtain ⟨b, off, cap, o, hvb, hob, hbl, _, hcell⟩ := (h.frN hf).read encS_len i x hx
    have hc0 := fun orig K => hcell 0 (.string x) orig K rfl
    simp only [Nat.add_zero, Nat.mul_one] at hc0
    simp only [Rc.kv] at hvb
    by_cases hxs : x = s
    · have dx : decide (x = s) = true := decide_eq_true hxs
      have ha : (ks.any fun k => decide (k = s)) = true := List.any_eq_true.2 ⟨x, List.mem_of_getElem? hx, dx⟩
      rw [ha] at hK
      simp (maxSteps := 4000000) (disch := (first | assumption | exact List.not_mem_nil | exact Fr.refl _ _ | ((repeat (first | assumption | apply cur_alloc | apply cur_setB | apply cur_drew | apply cur_drewN)); done) | omega | (simp only [gz, Value.cells, oneC]; first | done | omega) | ((simp only [List.mem_cons, List.not_mem_nil, or_false, gz]); omega) | rfl)) only [↓gsd, gs, ev, Nat.reduceAdd, Nat.reduceEqDiff, oneC, Value.cells, Option.isNone, gt, ↓hk33, e1, e2, e5, hg, el, hvb, i0, i1, Int.toNat_natCast, Nat.mul_one, hob, hc0, dx]
      exact hK _ hf
    · have dx : decide (x = s) = false := decide_eq_false hxs
      simp (maxSteps := 4000000) (disch := (first | assumption | exact List.not_mem_nil | exact Fr.refl _ _ | ((repeat (first | assumption | apply cur_alloc | apply cur_setB | apply cur_drew | apply cur_drewN)); done) | omega | (simp only [gz, Value.cells, oneC]; first | done | omega) | ((simp only [List.mem_cons, List.not_mem_nil, or_false, gz]); omega) | rfl)) only [↓gsd, gs, ev, Nat.reduceAdd, Nat.reduceEqDiff, oneC, Value.cells, Option.isNone, gt, ↓hk33, e1, e2, e5, hg, el, hvb, i0, i1, Int.toNat_natCast, Nat.mul_one, hob, hc0, dx]
      refine hk _ _ ⟨i + 1, by omega, ?_⟩ ?_
      · simp (maxSteps := 4000000) (disch := (first | assumption | exact List.not_mem_nil | exact Fr.refl _ _ | ((repeat (first | assumption | apply cur_alloc | apply cur_setB | apply cur_drew | apply cur_drewN)); done) | omega | (simp only [gz, Value.cells, oneC]; first | done | omega) | ((simp only [List.mem_cons, List.not_mem_nil, or_false, gz]); omega) | rfl)) only [↓gsd, gs, ev, Nat.reduceAdd, Nat.reduceEqDiff, oneC, Value.cells, Option.isNone, e1, e2, e5, hg, hvb, Int.natCast_add, Int.natCast_one]
        refine ⟨fun j y hj hy => ?_, hf⟩
        by_cases hji : j = i
        · subst hji; rw [hx] at hy; cases hy; exact hxs
        · exact hno j y (by omega) hy
      · simp (maxSteps := 4000000) (disch := (first | assumption | exact List.not_mem_nil | exact Fr.refl _ _ | ((repeat (first | assumption | apply cur_alloc | apply cur_setB | apply cur_drew | apply cur_drewN)); done) | omega | (simp only [gz, Value.cells, oneC]; first | done | omega) | ((simp only [List.mem_cons, List.not_mem_nil, or_false, gz]); omega) | rfl)) only [↓gsd, gs, ev, Nat.reduceAdd, Nat.reduceEqDiff, oneC, Value.cells, Option.isNone, e5, numOf, Int.toNat_natCast, i3]; omega
  · have el : decide ((i : Int) < (ks.length : Int)) = false := decide_eq_false (by omega)
    have ha : (ks.any fun k => decide (k = s)) = false := by
      rw [List.any_eq_false]
      intro x hx
      obtain ⟨j, hj⟩ := List.getElem?_of_mem hx
      have := hno j x (by have := (List.getElem?_eq_some_iff.1 hj).1; omega) hj
      simpa using this
    rw [ha] at hK
    simp (maxSteps := 4000000) (disch := (first | assumption | exact List.not_mem_nil | exact Fr.refl _ _ | ((repeat (first | assumption | apply cur_alloc | apply cur_setB | apply cur_drew | apply cur_drewN)); done) | omega | (simp only [gz, Value.cells, oneC]; first | done | omega) | ((simp only [List.mem_cons, List.not_mem_nil, or_false, gz]); omega) | rfl)) only [↓gsd, gs, ev, Nat.reduceAdd, Nat.reduceEqDiff, oneC, Value.cells, Option.isNone, gt, ↓hk33, e1, e2, e5, hg, el]
    exact hK _ hf
end Go.Proofs.Ytenokheiindfkab
