/- GapClones walked. -/
import Derived.Test.YtenokheiindfkaaV6
import Derived.Test.YtenokheiindfkaaWCR
import Derived.Test.YtenokheiindfkaaO4
set_option linter.unusedVariables false
set_option linter.unusedSimpArgs false
set_option maxRecDepth 10000
namespace Go.Proofs.Ytenokheiindfkaa
open Go.VW
theorem RK.mono {w0 w1 : World} {r : Rec} (h : RK w0 r) (hf : Fr [] w0 w1) : RK w1 r := by
  obtain ⟨ks, h1, h2⟩ := h
  exact ⟨ks, h1, fun w' hf' => h2 w' (hf.trans' hf')⟩
/-- The last question: the first pair is as it was. -/
theorem clonesEnd {w0 w : World} {gb rb : Nat} {g : GS Rec} {e : Env} {K : Value → World → Prop} (h : Both w0 w gb rb g) (e7 : e 7 = .pointer (some ⟨gb, 0, none⟩)) (e8 : e 8 = .pointer (some ⟨rb, 0, none⟩))
    (hK : ∀ w', Fr [] w w' → K (.bool true) w') : W Try.prog 97 V9 c9_10 (retQ Try.prog [.tmp 6] K) e w := by
  have cw := cur w
  obtain ⟨gm, vx, hg, hr, _, _⟩ := h.ex
  have hwf := h.wf
  obtain ⟨xa, xc, hvxf⟩ := hr.own.sl.form
  have hh := hr.head
  rw [hvxf] at hh
  have hlt := lt_of_get _ _ hh
  have hd : Fr [] w w.drew := (Fr.refl _ _).drew
  simp (maxSteps := 4000000) (disch := (first | assumption | exact List.not_mem_nil | ((repeat (first | assumption | apply cur_alloc | apply cur_setB | apply cur_drew | apply cur_drewN)); done) | omega | (simp only [gz, Value.cells, oneC]; first | done | omega) | ((simp only [List.mem_cons, List.not_mem_nil, or_false, gz]); omega) | rfl)) only [↓gsd, gs, ev, Nat.reduceAdd, Nat.reduceEqDiff, oneC, Value.cells, Option.isNone, gt, ↓hk9, e7, e8]
  refine draw_intro [] ?_
  try simp (maxSteps := 4000000) (disch := (first | assumption | exact List.not_mem_nil | ((repeat (first | assumption | apply cur_alloc | apply cur_setB | apply cur_drew | apply cur_drewN)); done) | omega | (simp only [gz, Value.cells, oneC]; first | done | omega) | ((simp only [List.mem_cons, List.not_mem_nil, or_false, gz]); omega) | rfl)) only [↓gsd, gs, ev, Nat.reduceAdd, Nat.reduceEqDiff, oneC, Value.cells, Option.isNone, gt, ↓hk9, e7, e8]
  refine waitsR (hg.frN hd) hwf fun vw w1 hw1 hf1 hfr1 => ⟨hf1, ?_⟩
  have cw1 := cur w1
  have hz1 := hf1.size
  try simp (maxSteps := 4000000) (disch := (first | assumption | exact List.not_mem_nil | ((repeat (first | assumption | apply cur_alloc | apply cur_setB | apply cur_drew | apply cur_drewN)); done) | omega | (simp only [gz, Value.cells, oneC]; first | done | omega) | ((simp only [List.mem_cons, List.not_mem_nil, or_false, gz]); omega) | rfl)) only [↓gsd, gs, ev, Nat.reduceAdd, Nat.reduceEqDiff, oneC, Value.cells, Option.isNone, gt, ↓hk9, e7, e8]
  refine refWaits ((hr.frN hd).frN hf1) h.key hwf fun vy w2 hw2 hf2 hfr2 => ⟨hf1.trans' hf2, ?_⟩
  have cw2 := cur w2
  try simp (maxSteps := 4000000) (disch := (first | assumption | exact List.not_mem_nil | ((repeat (first | assumption | apply cur_alloc | apply cur_setB | apply cur_drew | apply cur_drewN)); done) | omega | (simp only [gz, Value.cells, oneC]; first | done | omega) | ((simp only [List.mem_cons, List.not_mem_nil, or_false, gz]); omega) | rfl)) only [↓gsd, gs, ev, Nat.reduceAdd, Nat.reduceEqDiff, oneC, Value.cells, Option.isNone, gt, ↓hk9, e7, e8]
  refine sameNums ((sl_ints hw1).frN hf2) (sl_ints hw2) (by rw [sortI_len, List.length_map]; have := hwf.len; have := hwf.m; omega) fun w3 hf3 => ?_
  have cw3 := cur w3
  simp (maxSteps := 4000000) (disch := (first | assumption | exact List.not_mem_nil | ((repeat (first | assumption | apply cur_alloc | apply cur_setB | apply cur_drew | apply cur_drewN)); done) | omega | (simp only [gz, Value.cells, oneC]; first | done | omega) | ((simp only [List.mem_cons, List.not_mem_nil, or_false, gz]); omega) | rfl)) only [↓gsd, gs, ev, Nat.reduceAdd, Nat.reduceEqDiff, oneC, Value.cells, Option.isNone, gt, ↓hk9, e7, e8, hh]
  refine ⟨(hf1.trans' hf2).trans' hf3, ?_⟩
  refine atR ((((hg.frN hd).frN hf1).frN hf2).frN hf3) ?_
  simp (maxSteps := 4000000) (disch := (first | assumption | exact List.not_mem_nil | ((repeat (first | assumption | apply cur_alloc | apply cur_setB | apply cur_drew | apply cur_drewN)); done) | omega | (simp only [gz, Value.cells, oneC]; first | done | omega) | ((simp only [List.mem_cons, List.not_mem_nil, or_false, gz]); omega) | rfl)) only [↓gsd, gs, ev, Nat.reduceAdd, Nat.reduceEqDiff, oneC, Value.cells, Option.isNone, gt, ↓hk9, e7, e8, hh]
  exact ⟨(hf1.trans' hf2).trans' hf3, hK _ (((hd.trans' hf1).trans' hf2).trans' hf3)⟩
/-- From the clone's loop on. -/
theorem clonesB {w0 wB w : World} {gb rb gb' rb' : Nat} {g g1 : GS Rec} {sv : Value} {ops : List OpG} {e : Env} {K : Value → World → Prop} (h : Both w0 wB gb rb g) (h' : Both wB w gb' rb' g1) (ho : SlOf 3 encOp w0 sv ops) (hr : ∀ o ∈ ops, RK w0 o.r) (hl : ops.length ≤ 9223372036854775807)
    (e2 : e 2 = sv) (e7 : e 7 = .pointer (some ⟨gb, 0, none⟩)) (e8 : e 8 = .pointer (some ⟨rb, 0, none⟩)) (e10 : e 10 = .pointer (some ⟨gb', 0, none⟩)) (e11 : e 11 = .pointer (some ⟨rb', 0, none⟩))
    (hK : ∀ w', Fr [] w0 w' → K (.bool true) w') : W Try.prog 97 V9 c9_9 (retQ Try.prog [.tmp 6] K) e w := by
  have cw := cur w
  obtain ⟨sa, sc, hsv⟩ := ho.form
  simp (maxSteps := 4000000) (disch := (first | assumption | exact List.not_mem_nil | ((repeat (first | assumption | apply cur_alloc | apply cur_setB | apply cur_drew | apply cur_drewN)); done) | omega | (simp only [gz, Value.cells, oneC]; first | done | omega) | ((simp only [List.mem_cons, List.not_mem_nil, or_false, gz]); omega) | rfl)) only [↓gsd, gs, ev, Nat.reduceAdd, Nat.reduceEqDiff, oneC, Value.cells, Option.isNone, gt, ↓o9_0_eq, ↓o9_3_eq, ↓o9_9_eq, ↓o9_12_eq, ↓o9_17_eq, ↓o9_23_eq, ↓o9_18_eq, ↓o9_20_eq, ↓c9_16_s, ↓o9_21_eq, ↓o9_22_eq, ↓c9_20_s, ↓c9_19_s, ↓c9_18_s, ↓c9_17_s, ↓c9_15_s, ↓o9_19_eq, ↓c9_22_s, ↓c9_21_s, ↓c9_14_s, ↓c9_13_s, ↓c9_12_s, ↓c9_11_s, ↓c9_9_s, ↓c9_8_s, ↓o9_13_eq, ↓o9_15_eq, ↓c9_28_s, ↓o9_16_eq, ↓c9_30_s, ↓c9_29_s, ↓c9_27_s, ↓o9_14_eq, ↓c9_32_s, ↓c9_31_s, ↓c9_26_s, ↓c9_25_s, ↓c9_24_s, ↓c9_23_s, ↓c9_7_s, ↓c9_6_s, ↓o9_10_eq, ↓o9_11_eq, ↓c9_35_s, ↓c9_34_s, ↓c9_33_s, ↓c9_5_s, ↓c9_4_s, ↓o9_4_eq, ↓o9_6_eq, ↓c9_41_s, ↓o9_7_eq, ↓o9_8_eq, ↓c9_45_s, ↓c9_44_s, ↓c9_43_s, ↓c9_42_s, ↓c9_40_s, ↓o9_5_eq, ↓c9_47_s, ↓c9_46_s, ↓c9_39_s, ↓c9_38_s, ↓c9_37_s, ↓c9_36_s, ↓c9_3_s, ↓c9_2_s, ↓o9_1_eq, ↓o9_2_eq, ↓c9_50_s, ↓c9_49_s, ↓c9_48_s, ↓c9_1_s, ↓c9_s, e2, e7, e8, e10, e11]
  refine loop_intro (fun e w' => ∃ (i : Nat) (g : GS Rec), i ≤ ops.length ∧ e 2 = sv ∧ e 7 = .pointer (some ⟨gb, 0, none⟩) ∧ e 8 = .pointer (some ⟨rb, 0, none⟩) ∧ e 10 = .pointer (some ⟨gb', 0, none⟩) ∧ e 11 = .pointer (some ⟨rb', 0, none⟩) ∧ e 14 = .int .i64 i ∧ Both wB w' gb' rb' g) (fun e _ => ops.length - (numOf (e 14)).toNat) ?_ ?_
  · refine ⟨0, g1, Nat.zero_le _, ?_⟩
    simp (maxSteps := 4000000) (disch := (first | assumption | exact List.not_mem_nil | ((repeat (first | assumption | apply cur_alloc | apply cur_setB | apply cur_drew | apply cur_drewN)); done) | omega | (simp only [gz, Value.cells, oneC]; first | done | omega) | ((simp only [List.mem_cons, List.not_mem_nil, or_false, gz]); omega) | rfl)) only [↓gsd, gs, ev, Nat.reduceAdd, Nat.reduceEqDiff, oneC, Value.cells, Option.isNone, e2, e7, e8, e10, e11, Int.natCast_zero]
    exact h'
  · rintro e w4 k ⟨i, g2, hi, e2, e7, e8, e10, e11, e14, hB⟩ hk
    have cw4 := cur w4
    have hA := h.frN hB.fr
    by_cases hil : i < ops.length
    · have d : decide ((i : Int) < (ops.length : Int)) = true := decide_eq_true (by omega)
      obtain ⟨o, ho'⟩ : ∃ o, ops[i]? = some o := ⟨ops[i], List.getElem?_eq_getElem hil⟩
      obtain ⟨bb, off, cap, ob, hv1, hob, _, hrow, _⟩ := (ho.frN hA.fr).read encOp_len i o ho'
      simp only [encOp] at hrow
      have i0 : (0 : Int) ≤ (i : Int) := by omega
      have i1 : (i : Int) < (ops.length : Int) := by omega
      simp (maxSteps := 4000000) (disch := (first | assumption | exact List.not_mem_nil | ((repeat (first | assumption | apply cur_alloc | apply cur_setB | apply cur_drew | apply cur_drewN)); done) | omega | (simp only [gz, Value.cells, oneC]; first | done | omega) | ((simp only [List.mem_cons, List.not_mem_nil, or_false, gz]); omega) | rfl)) only [↓gsd, gs, ev, Nat.reduceAdd, Nat.reduceEqDiff, oneC, Value.cells, Option.isNone, gt, ↓o9_0_eq, ↓o9_3_eq, ↓o9_9_eq, ↓o9_12_eq, ↓o9_17_eq, ↓o9_23_eq, ↓o9_18_eq, ↓o9_20_eq, ↓c9_16_s, ↓o9_21_eq, ↓o9_22_eq, ↓c9_20_s, ↓c9_19_s, ↓c9_18_s, ↓c9_17_s, ↓c9_15_s, ↓o9_19_eq, ↓c9_22_s, ↓c9_21_s, ↓c9_14_s, ↓c9_13_s, ↓c9_12_s, ↓c9_11_s, ↓c9_9_s, ↓c9_8_s, ↓o9_13_eq, ↓o9_15_eq, ↓c9_28_s, ↓o9_16_eq, ↓c9_30_s, ↓c9_29_s, ↓c9_27_s, ↓o9_14_eq, ↓c9_32_s, ↓c9_31_s, ↓c9_26_s, ↓c9_25_s, ↓c9_24_s, ↓c9_23_s, ↓c9_7_s, ↓c9_6_s, ↓o9_10_eq, ↓o9_11_eq, ↓c9_35_s, ↓c9_34_s, ↓c9_33_s, ↓c9_5_s, ↓c9_4_s, ↓o9_4_eq, ↓o9_6_eq, ↓c9_41_s, ↓o9_7_eq, ↓o9_8_eq, ↓c9_45_s, ↓c9_44_s, ↓c9_43_s, ↓c9_42_s, ↓c9_40_s, ↓o9_5_eq, ↓c9_47_s, ↓c9_46_s, ↓c9_39_s, ↓c9_38_s, ↓c9_37_s, ↓c9_36_s, ↓c9_3_s, ↓c9_2_s, ↓o9_1_eq, ↓o9_2_eq, ↓c9_50_s, ↓c9_49_s, ↓c9_48_s, ↓c9_1_s, ↓c9_s, e2, e7, e8, e10, e11, e14, hv1, d, i0, i1, Int.toNat_natCast, hob, hrow]
      refine step_spec hB ((hr o (List.mem_of_getElem? ho')).mono h.fr) fun w5 hB5 => ?_
      have cw5 := cur w5
      simp (maxSteps := 4000000) (disch := (first | assumption | exact List.not_mem_nil | ((repeat (first | assumption | apply cur_alloc | apply cur_setB | apply cur_drew | apply cur_drewN)); done) | omega | (simp only [gz, Value.cells, oneC]; first | done | omega) | ((simp only [List.mem_cons, List.not_mem_nil, or_false, gz]); omega) | rfl)) only [↓gsd, gs, ev, Nat.reduceAdd, Nat.reduceEqDiff, oneC, Value.cells, Option.isNone, gt, ↓o9_0_eq, ↓o9_3_eq, ↓o9_9_eq, ↓o9_12_eq, ↓o9_17_eq, ↓o9_23_eq, ↓o9_18_eq, ↓o9_20_eq, ↓c9_16_s, ↓o9_21_eq, ↓o9_22_eq, ↓c9_20_s, ↓c9_19_s, ↓c9_18_s, ↓c9_17_s, ↓c9_15_s, ↓o9_19_eq, ↓c9_22_s, ↓c9_21_s, ↓c9_14_s, ↓c9_13_s, ↓c9_12_s, ↓c9_11_s, ↓c9_9_s, ↓c9_8_s, ↓o9_13_eq, ↓o9_15_eq, ↓c9_28_s, ↓o9_16_eq, ↓c9_30_s, ↓c9_29_s, ↓c9_27_s, ↓o9_14_eq, ↓c9_32_s, ↓c9_31_s, ↓c9_26_s, ↓c9_25_s, ↓c9_24_s, ↓c9_23_s, ↓c9_7_s, ↓c9_6_s, ↓o9_10_eq, ↓o9_11_eq, ↓c9_35_s, ↓c9_34_s, ↓c9_33_s, ↓c9_5_s, ↓c9_4_s, ↓o9_4_eq, ↓o9_6_eq, ↓c9_41_s, ↓o9_7_eq, ↓o9_8_eq, ↓c9_45_s, ↓c9_44_s, ↓c9_43_s, ↓c9_42_s, ↓c9_40_s, ↓o9_5_eq, ↓c9_47_s, ↓c9_46_s, ↓c9_39_s, ↓c9_38_s, ↓c9_37_s, ↓c9_36_s, ↓c9_3_s, ↓c9_2_s, ↓o9_1_eq, ↓o9_2_eq, ↓c9_50_s, ↓c9_49_s, ↓c9_48_s, ↓c9_1_s, ↓c9_s, e2, e7, e8, e10, e11, e14]
      refine hk _ _ ⟨i + 1, stepG g2 o.clr o.r, by omega, ?_⟩ ?_
      · simp (maxSteps := 4000000) (disch := (first | assumption | exact List.not_mem_nil | ((repeat (first | assumption | apply cur_alloc | apply cur_setB | apply cur_drew | apply cur_drewN)); done) | omega | (simp only [gz, Value.cells, oneC]; first | done | omega) | ((simp only [List.mem_cons, List.not_mem_nil, or_false, gz]); omega) | rfl)) only [↓gsd, gs, ev, Nat.reduceAdd, Nat.reduceEqDiff, oneC, Value.cells, Option.isNone, e2, e7, e8, e10, e11, e14, hv1, Int.natCast_add, Int.natCast_one]
        exact hB5
      · have e3 : ((i : Int) + 1).toNat = i + 1 := by omega
        simp (maxSteps := 4000000) (disch := (first | assumption | exact List.not_mem_nil | ((repeat (first | assumption | apply cur_alloc | apply cur_setB | apply cur_drew | apply cur_drewN)); done) | omega | (simp only [gz, Value.cells, oneC]; first | done | omega) | ((simp only [List.mem_cons, List.not_mem_nil, or_false, gz]); omega) | rfl)) only [↓gsd, gs, ev, Nat.reduceAdd, Nat.reduceEqDiff, oneC, Value.cells, Option.isNone, e14, numOf, Int.toNat_natCast, e3]; omega
    · have d : decide ((i : Int) < (ops.length : Int)) = false := decide_eq_false (by omega)
      simp (maxSteps := 4000000) (disch := (first | assumption | exact List.not_mem_nil | ((repeat (first | assumption | apply cur_alloc | apply cur_setB | apply cur_drew | apply cur_drewN)); done) | omega | (simp only [gz, Value.cells, oneC]; first | done | omega) | ((simp only [List.mem_cons, List.not_mem_nil, or_false, gz]); omega) | rfl)) only [↓gsd, gs, ev, Nat.reduceAdd, Nat.reduceEqDiff, oneC, Value.cells, Option.isNone, gt, ↓o9_0_eq, ↓o9_3_eq, ↓o9_9_eq, ↓o9_12_eq, ↓o9_17_eq, ↓o9_23_eq, ↓o9_18_eq, ↓o9_20_eq, ↓c9_16_s, ↓o9_21_eq, ↓o9_22_eq, ↓c9_20_s, ↓c9_19_s, ↓c9_18_s, ↓c9_17_s, ↓c9_15_s, ↓o9_19_eq, ↓c9_22_s, ↓c9_21_s, ↓c9_14_s, ↓c9_13_s, ↓c9_12_s, ↓c9_11_s, ↓c9_9_s, ↓c9_8_s, ↓o9_13_eq, ↓o9_15_eq, ↓c9_28_s, ↓o9_16_eq, ↓c9_30_s, ↓c9_29_s, ↓c9_27_s, ↓o9_14_eq, ↓c9_32_s, ↓c9_31_s, ↓c9_26_s, ↓c9_25_s, ↓c9_24_s, ↓c9_23_s, ↓c9_7_s, ↓c9_6_s, ↓o9_10_eq, ↓o9_11_eq, ↓c9_35_s, ↓c9_34_s, ↓c9_33_s, ↓c9_5_s, ↓c9_4_s, ↓o9_4_eq, ↓o9_6_eq, ↓c9_41_s, ↓o9_7_eq, ↓o9_8_eq, ↓c9_45_s, ↓c9_44_s, ↓c9_43_s, ↓c9_42_s, ↓c9_40_s, ↓o9_5_eq, ↓c9_47_s, ↓c9_46_s, ↓c9_39_s, ↓c9_38_s, ↓c9_37_s, ↓c9_36_s, ↓c9_3_s, ↓c9_2_s, ↓o9_1_eq, ↓o9_2_eq, ↓c9_50_s, ↓c9_49_s, ↓c9_48_s, ↓c9_1_s, ↓c9_s, e2, e7, e8, e10, e11, e14, hsv, d]
      exact clonesEnd hA (by simp (maxSteps := 4000000) (disch := (first | assumption | exact List.not_mem_nil | ((repeat (first | assumption | apply cur_alloc | apply cur_setB | apply cur_drew | apply cur_drewN)); done) | omega | (simp only [gz, Value.cells, oneC]; first | done | omega) | ((simp only [List.mem_cons, List.not_mem_nil, or_false, gz]); omega) | rfl)) only [↓gsd, gs, ev, Nat.reduceAdd, Nat.reduceEqDiff, oneC, Value.cells, Option.isNone, e7]) (by simp (maxSteps := 4000000) (disch := (first | assumption | exact List.not_mem_nil | ((repeat (first | assumption | apply cur_alloc | apply cur_setB | apply cur_drew | apply cur_drewN)); done) | omega | (simp only [gz, Value.cells, oneC]; first | done | omega) | ((simp only [List.mem_cons, List.not_mem_nil, or_false, gz]); omega) | rfl)) only [↓gsd, gs, ev, Nat.reduceAdd, Nat.reduceEqDiff, oneC, Value.cells, Option.isNone, e8]) fun w' hf' => hK _ (hA.fr.trans' hf')
end Go.Proofs.Ytenokheiindfkaa
