/- StoreTrims walked. -/
import Derived.Test.YtenokheiindfkaaP3
set_option linter.unusedVariables false
set_option linter.unusedSimpArgs false
set_option maxRecDepth 10000
namespace Go.Proofs.Ytenokheiindfkaa
open Go.VW
set_option maxHeartbeats 8000000 in
theorem trims_spec {v n m : Int} {w : World} {K : Value → World → Prop} (hv0 : 0 ≤ v) (hv1 : v < 256) (hn0 : 0 ≤ n) (hn1 : n < 256) (hm0 : 0 ≤ m) (hm1 : m < 256)
    (hK : ∀ w', Fr [] w w' → K (.bool true) w') : CallsN Try.prog 5 [.int .u8 v, .int .u8 n, .int .u8 m] w K := by
  have cw := cur w
  refine call5 ?_
  simp (maxSteps := 4000000) (disch := (first | assumption | exact List.not_mem_nil | ((repeat (first | assumption | apply cur_alloc | apply cur_setB | apply cur_drew | apply cur_drewN)); done) | omega | (simp only [gz, Value.cells, oneC]; first | done | omega) | ((simp only [List.mem_cons, List.not_mem_nil, or_false, gz]); omega) | rfl)) only [↓gsd, gs, ev, Nat.reduceAdd, Nat.reduceEqDiff, oneC, Value.cells, Option.isNone, gt, ↓hk5]
  refine fixed_spec fun w1 hf1 => ?_
  have cw1 := cur w1
  have hz1 := hf1.size
  simp (maxSteps := 4000000) (disch := (first | assumption | exact List.not_mem_nil | ((repeat (first | assumption | apply cur_alloc | apply cur_setB | apply cur_drew | apply cur_drewN)); done) | omega | (simp only [gz, Value.cells, oneC]; first | done | omega) | ((simp only [List.mem_cons, List.not_mem_nil, or_false, gz]); omega) | rfl)) only [↓gsd, gs, ev, Nat.reduceAdd, Nat.reduceEqDiff, oneC, Value.cells, Option.isNone, gt, ↓hk5]
  refine new_spec fun b bm w2 hf2 hb hbm h0 => ?_
  have cw2 := cur w2
  have hz2 := hf2.size
  have hf02 := hf1.trans' hf2
  have hb' : w.heap.size ≤ b := by omega
  have hbm' : w.heap.size ≤ bm := by omega
  obtain ⟨mo, hmo⟩ : ∃ mo, mo = (St.new v).most := ⟨_, rfl⟩
  have hmoE : (mo : Int) = min (max v 1) 64 := by rw [hmo]; simp only [St.new]; omega
  have hmo1 : 1 ≤ mo := by omega
  obtain ⟨N, hN⟩ : ∃ N : Nat, (N : Int) = n := ⟨n.toNat, by omega⟩
  subst hN
  simp (maxSteps := 4000000) (disch := (first | assumption | exact List.not_mem_nil | ((repeat (first | assumption | apply cur_alloc | apply cur_setB | apply cur_drew | apply cur_drewN)); done) | omega | (simp only [gz, Value.cells, oneC]; first | done | omega) | ((simp only [List.mem_cons, List.not_mem_nil, or_false, gz]); omega) | rfl)) only [↓gsd, gs, ev, Nat.reduceAdd, Nat.reduceEqDiff, oneC, Value.cells, Option.isNone, gt, ↓hk5]
  rw [← hmoE]
  refine loop_intro (fun e w' => ∃ (i : Nat) (st : St), i ≤ N ∧ e 1 = .int .u8 N ∧ e 2 = .int .u8 m ∧ e 7 = .pointer (some ⟨b, 0, none⟩) ∧ e 8 = .int .i64 mo ∧ e 9 = .int .i64 i ∧
      StoreAt w' b bm st ∧ st.WF ∧ st.most = mo ∧ st.last = i ∧ TI mo i (st.row tK) ∧ st.row tN = ⟨[], false⟩ ∧ Fr [b, bm] w2 w')
    (fun e _ => N - (numOf (e 9)).toNat) ?_ ?_
  · refine ⟨0, St.new v, Nat.zero_le _, ?_⟩
    simp (maxSteps := 4000000) (disch := (first | assumption | exact List.not_mem_nil | ((repeat (first | assumption | apply cur_alloc | apply cur_setB | apply cur_drew | apply cur_drewN)); done) | omega | (simp only [gz, Value.cells, oneC]; first | done | omega) | ((simp only [List.mem_cons, List.not_mem_nil, or_false, gz]); omega) | rfl)) only [↓gsd, gs, ev, Nat.reduceAdd, Nat.reduceEqDiff, oneC, Value.cells, Option.isNone, Int.natCast_zero]
    exact ⟨h0, St.new_wf v, hmo.symm, rfl, ⟨by simp [St.row, St.new, aget], by simp [St.row, St.new, aget], by simp [St.row, St.new, aget]⟩, rfl, Fr.refl _ _⟩
  · rintro e w3 k ⟨i, st, hi, e1, e2, e7, e8, e9, hst, hwf, hms, hls, hti, hno, hf⟩ hk
    have cw3 := cur w3
    have hz3 := hf.size
    have hlt := hst.lt
    by_cases hgo : i < N
    · have el : decide ((i : Int) < (N : Int)) = true := decide_eq_true (by omega)
      simp (maxSteps := 4000000) (disch := (first | assumption | exact List.not_mem_nil | ((repeat (first | assumption | apply cur_alloc | apply cur_setB | apply cur_drew | apply cur_drewN)); done) | omega | (simp only [gz, Value.cells, oneC]; first | done | omega) | ((simp only [List.mem_cons, List.not_mem_nil, or_false, gz]); omega) | rfl)) only [↓gsd, gs, ev, Nat.reduceAdd, Nat.reduceEqDiff, oneC, Value.cells, Option.isNone, gt, ↓hk5, e1, e2, e7, e8, e9, el]
      refine put_spec fun w4 hf4 => ?_
      have cw4 := cur w4
      have hz4 := hf4.size
      unfold encWr
      simp (maxSteps := 4000000) (disch := (first | assumption | exact List.not_mem_nil | ((repeat (first | assumption | apply cur_alloc | apply cur_setB | apply cur_drew | apply cur_drewN)); done) | omega | (simp only [gz, Value.cells, oneC]; first | done | omega) | ((simp only [List.mem_cons, List.not_mem_nil, or_false, gz]); omega) | rfl)) only [↓gsd, gs, ev, Nat.reduceAdd, Nat.reduceEqDiff, oneC, Value.cells, Option.isNone, gt, ↓hk5, e1, e2, e7, e8, e9]
      generalize hW : World.alloc w4 _ = w5
      have hf5 : Fr [] w4 w5 := by rw [← hW]; (repeat (first | exact Fr.refl _ _ | assumption | with_reducible apply Fr.alloc | with_reducible apply Fr.drew | with_reducible refine Fr.setB ?_ _ _ (.inr (by first | omega | (simp only [gz]; omega))) | with_reducible refine Fr.setB ?_ _ _ (.inl (by first | assumption | simp)) | with_reducible refine Fr.trans' ?_ (by assumption)))
      have hz5 := hf5.size
      have hsl : SlOf 3 encWr w5 (.slice (some ⟨w4.heap.size, 0, none⟩) 1 1) [wK] := by rw [← hW]; exact ⟨rfl, .inr ⟨_, 0, 1, _, 44, (0, 0), rfl, get_alloc_new _ _, rfl⟩⟩
      clear hW
      have cw5 := cur w5
      refine commit_spec ((hst.frN hf4).frN hf5) hwf (fun w' hf => hsl.fr hf (by intro x hx; simp at hx; rcases hx with rfl | rfl <;> exact offV_new (by omega))) fun w6 hf6 h6 => ?_
      have cw6 := cur w6
      have hz6 := hf6.size
      have hl' : st.last < 1099511627776 := by omega
      have hc1 := commit1 chk_wK hl'
      have hrK := commit1_row chk_wK hl' tK
      have hrN := commit1_row chk_wK hl' tN
      have hwf' := hwf.commit [wK]
      simp (maxSteps := 4000000) (disch := (first | assumption | exact List.not_mem_nil | ((repeat (first | assumption | apply cur_alloc | apply cur_setB | apply cur_drew | apply cur_drewN)); done) | omega | (simp only [gz, Value.cells, oneC]; first | done | omega) | ((simp only [List.mem_cons, List.not_mem_nil, or_false, gz]); omega) | rfl)) only [↓gsd, gs, ev, Nat.reduceAdd, Nat.reduceEqDiff, oneC, Value.cells, Option.isNone, gt, ↓hk5, e1, e2, e7, e8, e9]
      refine hk _ _ ⟨i + 1, (st.commit [wK]).2, by omega, ?_⟩ ?_
      · simp (maxSteps := 4000000) (disch := (first | assumption | exact List.not_mem_nil | ((repeat (first | assumption | apply cur_alloc | apply cur_setB | apply cur_drew | apply cur_drewN)); done) | omega | (simp only [gz, Value.cells, oneC]; first | done | omega) | ((simp only [List.mem_cons, List.not_mem_nil, or_false, gz]); omega) | rfl)) only [↓gsd, gs, ev, Nat.reduceAdd, Nat.reduceEqDiff, oneC, Value.cells, Option.isNone, e1, e2, e7, e8, e9, Int.natCast_add, Int.natCast_one]
        refine ⟨h6, hwf', by rw [hc1]; exact hms, by rw [hc1]; show st.last + 1 = _; omega, ?_, ?_, ((hf.trans' hf4).trans' hf5).transM hf6⟩
        · rw [hrK, if_pos (by decide), hms, hls]
          exact hti.put hmo1 wK
        · rw [hrN, if_neg (by decide), hno]
      · have e3 : ((i : Int) + 1).toNat = i + 1 := by omega
        simp (maxSteps := 4000000) (disch := (first | assumption | exact List.not_mem_nil | ((repeat (first | assumption | apply cur_alloc | apply cur_setB | apply cur_drew | apply cur_drewN)); done) | omega | (simp only [gz, Value.cells, oneC]; first | done | omega) | ((simp only [List.mem_cons, List.not_mem_nil, or_false, gz]); omega) | rfl)) only [↓gsd, gs, ev, Nat.reduceAdd, Nat.reduceEqDiff, oneC, Value.cells, Option.isNone, e9, numOf, Int.toNat_natCast, e3]; omega
    · obtain rfl : i = N := by omega
      have el : decide ((i : Int) < (i : Int)) = false := decide_eq_false (by omega)
      simp (maxSteps := 4000000) (disch := (first | assumption | exact List.not_mem_nil | ((repeat (first | assumption | apply cur_alloc | apply cur_setB | apply cur_drew | apply cur_drewN)); done) | omega | (simp only [gz, Value.cells, oneC]; first | done | omega) | ((simp only [List.mem_cons, List.not_mem_nil, or_false, gz]); omega) | rfl)) only [↓gsd, gs, ev, Nat.reduceAdd, Nat.reduceEqDiff, oneC, Value.cells, Option.isNone, gt, ↓hk5, e1, e2, e7, e8, e9, el]
      refine put_spec fun w4 hf4 => ?_
      have cw4 := cur w4
      have hz4 := hf4.size
      unfold encWr
      simp (maxSteps := 4000000) (disch := (first | assumption | exact List.not_mem_nil | ((repeat (first | assumption | apply cur_alloc | apply cur_setB | apply cur_drew | apply cur_drewN)); done) | omega | (simp only [gz, Value.cells, oneC]; first | done | omega) | ((simp only [List.mem_cons, List.not_mem_nil, or_false, gz]); omega) | rfl)) only [↓gsd, gs, ev, Nat.reduceAdd, Nat.reduceEqDiff, oneC, Value.cells, Option.isNone, gt, ↓hk5, e1, e2, e7, e8, e9]
      generalize hW : World.alloc w4 _ = w5
      have hf5 : Fr [] w4 w5 := by rw [← hW]; (repeat (first | exact Fr.refl _ _ | assumption | with_reducible apply Fr.alloc | with_reducible apply Fr.drew | with_reducible refine Fr.setB ?_ _ _ (.inr (by first | omega | (simp only [gz]; omega))) | with_reducible refine Fr.setB ?_ _ _ (.inl (by first | assumption | simp)) | with_reducible refine Fr.trans' ?_ (by assumption)))
      have hz5 := hf5.size
      have hsl : SlOf 3 encWr w5 (.slice (some ⟨w4.heap.size, 0, none⟩) 1 1) [wO] := by rw [← hW]; exact ⟨rfl, .inr ⟨_, 0, 1, _, 44, (0, 0), rfl, get_alloc_new _ _, rfl⟩⟩
      clear hW
      have cw5 := cur w5
      refine commit_spec ((hst.frN hf4).frN hf5) hwf (fun w' hf => hsl.fr hf (by intro x hx; simp at hx; rcases hx with rfl | rfl <;> exact offV_new (by omega))) fun w6 hf6 h6 => ?_
      have cw6 := cur w6
      have hz6 := hf6.size
      have hl' : st.last < 1099511627776 := by omega
      have hrK := commit1_row chk_wO hl' tK
      have hrN := commit1_row chk_wO hl' tN
      have hls' : (st.commit [wO]).2.last = (i : Int) + 1 := by rw [commit1 chk_wO hl']; show st.last + 1 = _; omega
      rw [if_neg (by decide)] at hrK hrN
      rw [hno] at hrN
      rw [← hrK] at hti
      have hwf' := hwf.commit [wO]
      obtain ⟨s', hs'⟩ : ∃ s', s' = (st.commit [wO]).2 := ⟨_, rfl⟩
      rw [← hs'] at h6 hrN hti hls' hwf'
      have holdK := oldest_TI hmo1 hti
      have holdN : s'.oldest tN = 0 := by simp [St.oldest, hrN]
      have hlen := hti.len
      have hf06 : Fr [] w w6 := Fr.new2 hf02 (((hf.trans' hf4).trans' hf5).transM hf6) hb' hbm'
      simp (maxSteps := 4000000) (disch := (first | assumption | exact List.not_mem_nil | ((repeat (first | assumption | apply cur_alloc | apply cur_setB | apply cur_drew | apply cur_drewN)); done) | omega | (simp only [gz, Value.cells, oneC]; first | done | omega) | ((simp only [List.mem_cons, List.not_mem_nil, or_false, gz]); omega) | rfl)) only [↓gsd, gs, ev, Nat.reduceAdd, Nat.reduceEqDiff, oneC, Value.cells, Option.isNone, gt, ↓hk5, e1, e2, e7, e8, e9]
      refine versions_spec h6 hwf' fun vv w7 hown hf7 hfr => ?_
      have cw7 := cur w7
      have hz7 := hf7.size
      have h7 := h6.frN hf7
      obtain ⟨va, vc, hvv⟩ := hown.sl.form
      have d1 : decide ((((s'.row tK).list.length : Nat) : Int) = min (i : Int) (mo : Int)) = true := decide_eq_true (by omega)
      have hold0 : ∃ o : Int, o = s'.oldest tK ∧ 0 ≤ o ∧ o ≤ i := ⟨_, rfl, by rw [holdK]; split <;> omega, by rw [holdK]; split <;> omega⟩
      obtain ⟨o, ho, ho0, ho1⟩ := hold0
      have d0 : decide (m < 0) = false := decide_eq_false (by omega)
      have main : ∀ e : Env, e 1 = .int .u8 i → e 2 = .int .u8 m → e 7 = .pointer (some ⟨b, 0, none⟩) → e 12 = .int .i64 o → W Try.prog 99 V5 c5_11 (retQ Try.prog [.tmp 6] K) e w7 := by
        intro e e1 e2 e7 e12
        have hgK : goodKey tK = true := by decide
        have a1 : ¬ (goodKey tK = false ∨ m < 0) := by simp [hgK]; omega
        simp (maxSteps := 4000000) (disch := (first | assumption | exact List.not_mem_nil | ((repeat (first | assumption | apply cur_alloc | apply cur_setB | apply cur_drew | apply cur_drewN)); done) | omega | (simp only [gz, Value.cells, oneC]; first | done | omega) | ((simp only [List.mem_cons, List.not_mem_nil, or_false, gz]); omega) | rfl)) only [↓gsd, gs, ev, Nat.reduceAdd, Nat.reduceEqDiff, oneC, Value.cells, Option.isNone, gt, ↓hk5, e1, e2, e7, e12]
        refine read_spec h7 hwf' fun w8 hf8 => ?_
        have cw8 := cur w8
        have hz8 := hf8.size
        have hf08 := (hf06.trans' hf7).trans' hf8
        have h8 := h7.frN hf8
        by_cases c1 : (i : Int) + 1 < m
        · have d2 : decide ((i : Int) + 1 < m) = true := decide_eq_true c1
          have hr : s'.read tK m = (fact0, 21) := by simp only [St.read, if_neg a1, if_pos (show s'.last < m by omega)]
          rw [hr]
          unfold encFact fact0
          simp (maxSteps := 4000000) (disch := (first | assumption | exact List.not_mem_nil | ((repeat (first | assumption | apply cur_alloc | apply cur_setB | apply cur_drew | apply cur_drewN)); done) | omega | (simp only [gz, Value.cells, oneC]; first | done | omega) | ((simp only [List.mem_cons, List.not_mem_nil, or_false, gz]); omega) | rfl)) only [↓gsd, gs, ev, Nat.reduceAdd, Nat.reduceEqDiff, oneC, Value.cells, Option.isNone, gt, ↓hk5, e1, e2, e7, e12, d2]
          exact hK _ (hf08.trans' (by (repeat (first | exact Fr.refl _ _ | assumption | with_reducible apply Fr.alloc | with_reducible apply Fr.drew | with_reducible refine Fr.setB ?_ _ _ (.inr (by first | omega | (simp only [gz]; omega))) | with_reducible refine Fr.setB ?_ _ _ (.inl (by first | assumption | simp)) | with_reducible refine Fr.trans' ?_ (by assumption)))))
        · have d2 : decide ((i : Int) + 1 < m) = false := decide_eq_false c1
          have a2 : ¬ s'.last < m := by omega
          by_cases c2 : m < o
          · have d3 : decide (m < o) = true := decide_eq_true c2
            have hr : s'.read tK m = (fact0, 20) := by simp only [St.read, if_neg a1, if_neg a2, if_pos (show m < s'.oldest tK by omega)]
            rw [hr]
            unfold encFact fact0
            simp (maxSteps := 4000000) (disch := (first | assumption | exact List.not_mem_nil | ((repeat (first | assumption | apply cur_alloc | apply cur_setB | apply cur_drew | apply cur_drewN)); done) | omega | (simp only [gz, Value.cells, oneC]; first | done | omega) | ((simp only [List.mem_cons, List.not_mem_nil, or_false, gz]); omega) | rfl)) only [↓gsd, gs, ev, Nat.reduceAdd, Nat.reduceEqDiff, oneC, Value.cells, Option.isNone, gt, ↓hk5, e1, e2, e7, e12, d2, d3]
            refine oldest_spec (h8.frN (by (repeat (first | exact Fr.refl _ _ | assumption | with_reducible apply Fr.alloc | with_reducible apply Fr.drew | with_reducible refine Fr.setB ?_ _ _ (.inr (by first | omega | (simp only [gz]; omega))) | with_reducible refine Fr.setB ?_ _ _ (.inl (by first | assumption | simp)) | with_reducible refine Fr.trans' ?_ (by assumption))))) hwf' ?_
            rw [← ho]
            simp (maxSteps := 4000000) (disch := (first | assumption | exact List.not_mem_nil | ((repeat (first | assumption | apply cur_alloc | apply cur_setB | apply cur_drew | apply cur_drewN)); done) | omega | (simp only [gz, Value.cells, oneC]; first | done | omega) | ((simp only [List.mem_cons, List.not_mem_nil, or_false, gz]); omega) | rfl)) only [↓gsd, gs, ev, Nat.reduceAdd, Nat.reduceEqDiff, oneC, Value.cells, Option.isNone, gt, ↓hk5, e1, e2, e7, e12]
            exact hK _ (hf08.trans' (by (repeat (first | exact Fr.refl _ _ | assumption | with_reducible apply Fr.alloc | with_reducible apply Fr.drew | with_reducible refine Fr.setB ?_ _ _ (.inr (by first | omega | (simp only [gz]; omega))) | with_reducible refine Fr.setB ?_ _ _ (.inl (by first | assumption | simp)) | with_reducible refine Fr.trans' ?_ (by assumption)))))
          · have d3 : decide (m < o) = false := decide_eq_false c2
            have hr : s'.read tK m = (mkFact tK (s'.row tK).list m, 0) := by simp only [St.read, if_neg a1, if_neg a2, if_neg (show ¬ m < s'.oldest tK by omega)]
            rw [hr]
            unfold encFact
            simp (maxSteps := 4000000) (disch := (first | assumption | exact List.not_mem_nil | ((repeat (first | assumption | apply cur_alloc | apply cur_setB | apply cur_drew | apply cur_drewN)); done) | omega | (simp only [gz, Value.cells, oneC]; first | done | omega) | ((simp only [List.mem_cons, List.not_mem_nil, or_false, gz]); omega) | rfl)) only [↓gsd, gs, ev, Nat.reduceAdd, Nat.reduceEqDiff, oneC, Value.cells, Option.isNone, gt, ↓hk5, e1, e2, e7, e12, d2, d3]
            refine oldest_spec (h8.frN (by (repeat (first | exact Fr.refl _ _ | assumption | with_reducible apply Fr.alloc | with_reducible apply Fr.drew | with_reducible refine Fr.setB ?_ _ _ (.inr (by first | omega | (simp only [gz]; omega))) | with_reducible refine Fr.setB ?_ _ _ (.inl (by first | assumption | simp)) | with_reducible refine Fr.trans' ?_ (by assumption))))) hwf' ?_
            rw [← ho]
            simp (maxSteps := 4000000) (disch := (first | assumption | exact List.not_mem_nil | ((repeat (first | assumption | apply cur_alloc | apply cur_setB | apply cur_drew | apply cur_drewN)); done) | omega | (simp only [gz, Value.cells, oneC]; first | done | omega) | ((simp only [List.mem_cons, List.not_mem_nil, or_false, gz]); omega) | rfl)) only [↓gsd, gs, ev, Nat.reduceAdd, Nat.reduceEqDiff, oneC, Value.cells, Option.isNone, gt, ↓hk5, e1, e2, e7, e12]
            refine oldest_spec (h8.frN (by (repeat (first | exact Fr.refl _ _ | assumption | with_reducible apply Fr.alloc | with_reducible apply Fr.drew | with_reducible refine Fr.setB ?_ _ _ (.inr (by first | omega | (simp only [gz]; omega))) | with_reducible refine Fr.setB ?_ _ _ (.inl (by first | assumption | simp)) | with_reducible refine Fr.trans' ?_ (by assumption))))) hwf' ?_
            rw [holdN]
            simp (maxSteps := 4000000) (disch := (first | assumption | exact List.not_mem_nil | ((repeat (first | assumption | apply cur_alloc | apply cur_setB | apply cur_drew | apply cur_drewN)); done) | omega | (simp only [gz, Value.cells, oneC]; first | done | omega) | ((simp only [List.mem_cons, List.not_mem_nil, or_false, gz]); omega) | rfl)) only [↓gsd, gs, ev, Nat.reduceAdd, Nat.reduceEqDiff, oneC, Value.cells, Option.isNone, gt, ↓hk5, e1, e2, e7, e12]
            exact hK _ (hf08.trans' (by (repeat (first | exact Fr.refl _ _ | assumption | with_reducible apply Fr.alloc | with_reducible apply Fr.drew | with_reducible refine Fr.setB ?_ _ _ (.inr (by first | omega | (simp only [gz]; omega))) | with_reducible refine Fr.setB ?_ _ _ (.inl (by first | assumption | simp)) | with_reducible refine Fr.trans' ?_ (by assumption)))))
      by_cases hb1 : i ≤ mo
      · have d2 : decide ((i : Int) ≤ (mo : Int)) = true := decide_eq_true (by omega)
        simp (maxSteps := 4000000) (disch := (first | assumption | exact List.not_mem_nil | ((repeat (first | assumption | apply cur_alloc | apply cur_setB | apply cur_drew | apply cur_drewN)); done) | omega | (simp only [gz, Value.cells, oneC]; first | done | omega) | ((simp only [List.mem_cons, List.not_mem_nil, or_false, gz]); omega) | rfl)) only [↓gsd, gs, ev, Nat.reduceAdd, Nat.reduceEqDiff, oneC, Value.cells, Option.isNone, gt, ↓o5_0_eq, ↓o5_3_eq, ↓o5_4_eq, ↓o5_9_eq, ↓o5_10_eq, ↓o5_11_eq, ↓o5_14_eq, ↓o5_17_eq, ↓o5_18_eq, ↓o5_23_eq, ↓c5_14_s, ↓o5_19_eq, ↓o5_20_eq, ↓c5_18_s, ↓o5_21_eq, ↓o5_22_eq, ↓c5_21_s, ↓c5_20_s, ↓c5_19_s, ↓c5_17_s, ↓c5_16_s, ↓c5_15_s, ↓c5_13_s, ↓c5_12_s, ↓o5_15_eq, ↓o5_16_eq, ↓c5_24_s, ↓c5_23_s, ↓c5_22_s, ↓c5_10_s, ↓c5_9_s, ↓o5_12_eq, ↓o5_13_eq, ↓c5_27_s, ↓c5_26_s, ↓c5_25_s, ↓c5_8_s, ↓c5_7_s, ↓c5_6_s, ↓c5_5_s, ↓o5_5_eq, ↓o5_7_eq, ↓c5_33_s, ↓o5_8_eq, ↓c5_35_s, ↓c5_34_s, ↓c5_32_s, ↓o5_6_eq, ↓c5_37_s, ↓c5_36_s, ↓c5_31_s, ↓c5_30_s, ↓c5_29_s, ↓c5_28_s, ↓c5_4_s, ↓c5_3_s, ↓c5_2_s, ↓o5_1_eq, ↓o5_2_eq, ↓c5_40_s, ↓c5_39_s, ↓c5_38_s, ↓c5_1_s, ↓c5_s, e1, e2, e7, e8, e9, hvv, d1, d2]
        exact main _ (by simp (maxSteps := 4000000) (disch := (first | assumption | exact List.not_mem_nil | ((repeat (first | assumption | apply cur_alloc | apply cur_setB | apply cur_drew | apply cur_drewN)); done) | omega | (simp only [gz, Value.cells, oneC]; first | done | omega) | ((simp only [List.mem_cons, List.not_mem_nil, or_false, gz]); omega) | rfl)) only [↓gsd, gs, ev, Nat.reduceAdd, Nat.reduceEqDiff, oneC, Value.cells, Option.isNone, e1]) (by simp (maxSteps := 4000000) (disch := (first | assumption | exact List.not_mem_nil | ((repeat (first | assumption | apply cur_alloc | apply cur_setB | apply cur_drew | apply cur_drewN)); done) | omega | (simp only [gz, Value.cells, oneC]; first | done | omega) | ((simp only [List.mem_cons, List.not_mem_nil, or_false, gz]); omega) | rfl)) only [↓gsd, gs, ev, Nat.reduceAdd, Nat.reduceEqDiff, oneC, Value.cells, Option.isNone, e2]) (by simp (maxSteps := 4000000) (disch := (first | assumption | exact List.not_mem_nil | ((repeat (first | assumption | apply cur_alloc | apply cur_setB | apply cur_drew | apply cur_drewN)); done) | omega | (simp only [gz, Value.cells, oneC]; first | done | omega) | ((simp only [List.mem_cons, List.not_mem_nil, or_false, gz]); omega) | rfl)) only [↓gsd, gs, ev, Nat.reduceAdd, Nat.reduceEqDiff, oneC, Value.cells, Option.isNone, e7]) (by simp (maxSteps := 4000000) (disch := (first | assumption | exact List.not_mem_nil | ((repeat (first | assumption | apply cur_alloc | apply cur_setB | apply cur_drew | apply cur_drewN)); done) | omega | (simp only [gz, Value.cells, oneC]; first | done | omega) | ((simp only [List.mem_cons, List.not_mem_nil, or_false, gz]); omega) | rfl)) only [↓gsd, gs, ev, Nat.reduceAdd, Nat.reduceEqDiff, oneC, Value.cells, Option.isNone]; rw [ho, holdK, if_neg (by omega)])
      · have d2 : decide ((i : Int) ≤ (mo : Int)) = false := decide_eq_false (by omega)
        simp (maxSteps := 4000000) (disch := (first | assumption | exact List.not_mem_nil | ((repeat (first | assumption | apply cur_alloc | apply cur_setB | apply cur_drew | apply cur_drewN)); done) | omega | (simp only [gz, Value.cells, oneC]; first | done | omega) | ((simp only [List.mem_cons, List.not_mem_nil, or_false, gz]); omega) | rfl)) only [↓gsd, gs, ev, Nat.reduceAdd, Nat.reduceEqDiff, oneC, Value.cells, Option.isNone, gt, ↓o5_0_eq, ↓o5_3_eq, ↓o5_4_eq, ↓o5_9_eq, ↓o5_10_eq, ↓o5_11_eq, ↓o5_14_eq, ↓o5_17_eq, ↓o5_18_eq, ↓o5_23_eq, ↓c5_14_s, ↓o5_19_eq, ↓o5_20_eq, ↓c5_18_s, ↓o5_21_eq, ↓o5_22_eq, ↓c5_21_s, ↓c5_20_s, ↓c5_19_s, ↓c5_17_s, ↓c5_16_s, ↓c5_15_s, ↓c5_13_s, ↓c5_12_s, ↓o5_15_eq, ↓o5_16_eq, ↓c5_24_s, ↓c5_23_s, ↓c5_22_s, ↓c5_10_s, ↓c5_9_s, ↓o5_12_eq, ↓o5_13_eq, ↓c5_27_s, ↓c5_26_s, ↓c5_25_s, ↓c5_8_s, ↓c5_7_s, ↓c5_6_s, ↓c5_5_s, ↓o5_5_eq, ↓o5_7_eq, ↓c5_33_s, ↓o5_8_eq, ↓c5_35_s, ↓c5_34_s, ↓c5_32_s, ↓o5_6_eq, ↓c5_37_s, ↓c5_36_s, ↓c5_31_s, ↓c5_30_s, ↓c5_29_s, ↓c5_28_s, ↓c5_4_s, ↓c5_3_s, ↓c5_2_s, ↓o5_1_eq, ↓o5_2_eq, ↓c5_40_s, ↓c5_39_s, ↓c5_38_s, ↓c5_1_s, ↓c5_s, e1, e2, e7, e8, e9, hvv, d1, d2]
        exact main _ (by simp (maxSteps := 4000000) (disch := (first | assumption | exact List.not_mem_nil | ((repeat (first | assumption | apply cur_alloc | apply cur_setB | apply cur_drew | apply cur_drewN)); done) | omega | (simp only [gz, Value.cells, oneC]; first | done | omega) | ((simp only [List.mem_cons, List.not_mem_nil, or_false, gz]); omega) | rfl)) only [↓gsd, gs, ev, Nat.reduceAdd, Nat.reduceEqDiff, oneC, Value.cells, Option.isNone, e1]) (by simp (maxSteps := 4000000) (disch := (first | assumption | exact List.not_mem_nil | ((repeat (first | assumption | apply cur_alloc | apply cur_setB | apply cur_drew | apply cur_drewN)); done) | omega | (simp only [gz, Value.cells, oneC]; first | done | omega) | ((simp only [List.mem_cons, List.not_mem_nil, or_false, gz]); omega) | rfl)) only [↓gsd, gs, ev, Nat.reduceAdd, Nat.reduceEqDiff, oneC, Value.cells, Option.isNone, e2]) (by simp (maxSteps := 4000000) (disch := (first | assumption | exact List.not_mem_nil | ((repeat (first | assumption | apply cur_alloc | apply cur_setB | apply cur_drew | apply cur_drewN)); done) | omega | (simp only [gz, Value.cells, oneC]; first | done | omega) | ((simp only [List.mem_cons, List.not_mem_nil, or_false, gz]); omega) | rfl)) only [↓gsd, gs, ev, Nat.reduceAdd, Nat.reduceEqDiff, oneC, Value.cells, Option.isNone, e7]) (by simp (maxSteps := 4000000) (disch := (first | assumption | exact List.not_mem_nil | ((repeat (first | assumption | apply cur_alloc | apply cur_setB | apply cur_drew | apply cur_drewN)); done) | omega | (simp only [gz, Value.cells, oneC]; first | done | omega) | ((simp only [List.mem_cons, List.not_mem_nil, or_false, gz]); omega) | rfl)) only [↓gsd, gs, ev, Nat.reduceAdd, Nat.reduceEqDiff, oneC, Value.cells, Option.isNone]; rw [ho, holdK, if_pos (by omega)]; congr 1; omega)
end Go.Proofs.Ytenokheiindfkaa
