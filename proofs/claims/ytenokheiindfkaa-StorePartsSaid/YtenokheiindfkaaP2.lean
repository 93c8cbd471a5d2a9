/- StoreParts walked. -/
import Derived.Test.YtenokheiindfkaaS9
import Derived.Test.YtenokheiindfkaaP1
set_option linter.unusedVariables false
set_option linter.unusedSimpArgs false
set_option maxRecDepth 10000
namespace Go.Proofs.Ytenokheiindfkaa
open Go.VW
theorem step_fst (s : St × List (List Wr)) (ws : List Wr) : (step s ws).1 = (s.1.commit ws).2 := by
  unfold step
  split
  · rfl
  · rename_i h; exact (commit_err h).2.symm
set_option maxHeartbeats 8000000 in
theorem parts_spec {n : Int} {lv : Value} {vs : List Value} {ls : List (List Wr)} {key : ByteArray} {w : World} {K : Value → World → Prop} (h : ListAt w lv vs ls) (hmx : ls.length ≤ 9223372036854775807)
    (hK : ∀ w', Fr [] w w' → K (.bool true) w') : CallsN Try.prog 4 [.int .i64 n, lv, .string key] w K := by
  have cw := cur w
  refine call4 ?_
  simp (maxSteps := 4000000) (disch := (first | assumption | exact List.not_mem_nil | ((repeat (first | assumption | apply cur_alloc | apply cur_setB | apply cur_drew | apply cur_drewN)); done) | omega | (simp only [gz, Value.cells, oneC]; first | done | omega) | ((simp only [List.mem_cons, List.not_mem_nil, or_false, gz]); omega) | rfl)) only [↓gsd, gs, ev, Nat.reduceAdd, Nat.reduceEqDiff, oneC, Value.cells, Option.isNone, gt, ↓hk4]
  refine fixed_spec fun w1 hf1 => ?_
  have cw1 := cur w1
  have hz1 := hf1.size
  by_cases h1 : (key.size : Int) < 1
  · have d1 : decide ((key.size : Int) < 1) = true := decide_eq_true h1
    simp (maxSteps := 4000000) (disch := (first | assumption | exact List.not_mem_nil | ((repeat (first | assumption | apply cur_alloc | apply cur_setB | apply cur_drew | apply cur_drewN)); done) | omega | (simp only [gz, Value.cells, oneC]; first | done | omega) | ((simp only [List.mem_cons, List.not_mem_nil, or_false, gz]); omega) | rfl)) only [↓gsd, gs, ev, Nat.reduceAdd, Nat.reduceEqDiff, oneC, Value.cells, Option.isNone, gt, ↓hk4, d1]
    refine fixed_spec fun w2 hf2 => ?_
    exact hK _ (hf1.trans' hf2)
  have d1 : decide ((key.size : Int) < 1) = false := decide_eq_false h1
  by_cases h2 : 32 < (key.size : Int)
  · have d2 : decide (32 < (key.size : Int)) = true := decide_eq_true h2
    simp (maxSteps := 4000000) (disch := (first | assumption | exact List.not_mem_nil | ((repeat (first | assumption | apply cur_alloc | apply cur_setB | apply cur_drew | apply cur_drewN)); done) | omega | (simp only [gz, Value.cells, oneC]; first | done | omega) | ((simp only [List.mem_cons, List.not_mem_nil, or_false, gz]); omega) | rfl)) only [↓gsd, gs, ev, Nat.reduceAdd, Nat.reduceEqDiff, oneC, Value.cells, Option.isNone, gt, ↓hk4, d1, d2]
    refine fixed_spec fun w2 hf2 => ?_
    exact hK _ (hf1.trans' hf2)
  have d2 : decide (32 < (key.size : Int)) = false := decide_eq_false h2
  have hg : goodKey key = true := by
    unfold goodKey
    simp only [Bool.and_eq_true, decide_eq_true_eq]; omega
  simp (maxSteps := 4000000) (disch := (first | assumption | exact List.not_mem_nil | ((repeat (first | assumption | apply cur_alloc | apply cur_setB | apply cur_drew | apply cur_drewN)); done) | omega | (simp only [gz, Value.cells, oneC]; first | done | omega) | ((simp only [List.mem_cons, List.not_mem_nil, or_false, gz]); omega) | rfl)) only [↓gsd, gs, ev, Nat.reduceAdd, Nat.reduceEqDiff, oneC, Value.cells, Option.isNone, gt, ↓hk4, d1, d2]
  refine new_spec fun b bm w2 hf2 hb hbm h0 => ?_
  have cw2 := cur w2
  have hz2 := hf2.size
  have hlt := h0.lt
  have hf02 := hf1.trans' hf2
  have hb' : w.heap.size ≤ b := by omega
  have hbm' : w.heap.size ≤ bm := by omega
  obtain ⟨la, lc, hlv⟩ := h.sl.form
  have hvlen := h.len
  simp (maxSteps := 4000000) (disch := (first | assumption | exact List.not_mem_nil | ((repeat (first | assumption | apply cur_alloc | apply cur_setB | apply cur_drew | apply cur_drewN)); done) | omega | (simp only [gz, Value.cells, oneC]; first | done | omega) | ((simp only [List.mem_cons, List.not_mem_nil, or_false, gz]); omega) | rfl)) only [↓gsd, gs, ev, Nat.reduceAdd, Nat.reduceEqDiff, oneC, Value.cells, Option.isNone, gt, ↓hk4]
  obtain ⟨C4, hC4⟩ : ∃ C, C = c4_4 := ⟨_, rfl⟩
  rw [← hC4]
  have hl : ∀ w', Fr [b, bm] w2 w' → ListAt w' lv vs ls := fun w' hf' => h.frN (Fr.new2 hf02 hf' hb' hbm')
  refine loop_intro (fun e w' => ∃ i : Nat, i ≤ ls.length ∧ e 0 = .int .i64 n ∧ e 1 = lv ∧ e 2 = .string key ∧ e 7 = .pointer (some ⟨b, 0, none⟩) ∧ e 8 = .int .i64 i ∧
      StoreAt w' b bm ((ls.take i).foldl step (St.new n, [])).1 ∧ Fr [b, bm] w2 w')
    (fun e _ => ls.length - (numOf (e 8)).toNat) ?_ ?_
  · refine ⟨0, Nat.zero_le _, ?_⟩
    simp (maxSteps := 4000000) (disch := (first | assumption | exact List.not_mem_nil | ((repeat (first | assumption | apply cur_alloc | apply cur_setB | apply cur_drew | apply cur_drewN)); done) | omega | (simp only [gz, Value.cells, oneC]; first | done | omega) | ((simp only [List.mem_cons, List.not_mem_nil, or_false, gz]); omega) | rfl)) only [↓gsd, gs, ev, Nat.reduceAdd, Nat.reduceEqDiff, oneC, Value.cells, Option.isNone, Int.natCast_zero, List.foldl_nil]
    exact ⟨h0, Fr.refl _ _⟩
  · rintro e w3 k ⟨i, hi, e0, e1, e2, e7, e8, hst, hf⟩ hk
    have cw3 := cur w3
    have hz3 := hf.size
    obtain ⟨hH, hwf⟩ := Hist.done (st := St.new n) (own := []) (ls.take i) (St.new n, []) (Hist.new n) (St.new_wf n)
    by_cases hgo : i < ls.length ∧ (i : Int) < 200
    · obtain ⟨hlt', h200⟩ := hgo
      have el : decide ((i : Int) < (vs.length : Int)) = true := decide_eq_true (by omega)
      have e200 : decide ((i : Int) < 200) = true := decide_eq_true h200
      have i0 : (0 : Int) ≤ (i : Int) := by omega
      have i1 : (i : Int) < (vs.length : Int) := by omega
      obtain ⟨v, hv⟩ : ∃ v, vs[i]? = some v := ⟨vs[i], List.getElem?_eq_getElem (by omega)⟩
      obtain ⟨ws, hws⟩ : ∃ ws, ls[i]? = some ws := ⟨ls[i], List.getElem?_eq_getElem hlt'⟩
      obtain ⟨bb, off, cap, ob, hlv1, hob, hbl, hrw, hcell⟩ := (hl w3 hf).sl.read one1_len i v hv
      have hc0 := fun orig K => hcell 0 v orig K rfl
      simp only [Nat.add_zero, Nat.mul_one] at hc0
      have hfold : (ls.take (i + 1)).foldl step (St.new n, []) = step ((ls.take i).foldl step (St.new n, [])) ws := by
        rw [List.take_add_one, hws, List.foldl_append]; rfl
      simp (maxSteps := 4000000) (disch := (first | assumption | exact List.not_mem_nil | ((repeat (first | assumption | apply cur_alloc | apply cur_setB | apply cur_drew | apply cur_drewN)); done) | omega | (simp only [gz, Value.cells, oneC]; first | done | omega) | ((simp only [List.mem_cons, List.not_mem_nil, or_false, gz]); omega) | rfl)) only [↓gsd, gs, ev, Nat.reduceAdd, Nat.reduceEqDiff, oneC, Value.cells, Option.isNone, gt, ↓hk4, e0, e1, e2, e7, e8, hlv1, el, e200, i0, i1, Int.toNat_natCast, Nat.mul_one, hob, hc0]
      refine commit_spec hst hwf (fun w'' hf'' => (hl w'' (hf.transM hf'')).at_ i v ws hv hws) fun w4 hf4 hst4 => ?_
      have cw4 := cur w4
      have hz4 := hf4.size
      simp (maxSteps := 4000000) (disch := (first | assumption | exact List.not_mem_nil | ((repeat (first | assumption | apply cur_alloc | apply cur_setB | apply cur_drew | apply cur_drewN)); done) | omega | (simp only [gz, Value.cells, oneC]; first | done | omega) | ((simp only [List.mem_cons, List.not_mem_nil, or_false, gz]); omega) | rfl)) only [↓gsd, gs, ev, Nat.reduceAdd, Nat.reduceEqDiff, oneC, Value.cells, Option.isNone, gt, ↓hk4, e0, e1, e2, e7, e8]
      refine hk _ _ ⟨i + 1, by omega, ?_⟩ ?_
      · rw [hfold, step_fst]
        simp (maxSteps := 4000000) (disch := (first | assumption | exact List.not_mem_nil | ((repeat (first | assumption | apply cur_alloc | apply cur_setB | apply cur_drew | apply cur_drewN)); done) | omega | (simp only [gz, Value.cells, oneC]; first | done | omega) | ((simp only [List.mem_cons, List.not_mem_nil, or_false, gz]); omega) | rfl)) only [↓gsd, gs, ev, Nat.reduceAdd, Nat.reduceEqDiff, oneC, Value.cells, Option.isNone, e0, e1, e2, e7, e8, Int.natCast_add, Int.natCast_one, hlv1]
        exact ⟨hst4, hf.transM hf4⟩
      · have e3 : ((i : Int) + 1).toNat = i + 1 := by omega
        simp (maxSteps := 4000000) (disch := (first | assumption | exact List.not_mem_nil | ((repeat (first | assumption | apply cur_alloc | apply cur_setB | apply cur_drew | apply cur_drewN)); done) | omega | (simp only [gz, Value.cells, oneC]; first | done | omega) | ((simp only [List.mem_cons, List.not_mem_nil, or_false, gz]); omega) | rfl)) only [↓gsd, gs, ev, Nat.reduceAdd, Nat.reduceEqDiff, oneC, Value.cells, Option.isNone, e8, numOf, Int.toNat_natCast, e3]; omega
    · obtain ⟨st, hstE⟩ : ∃ st, st = ((ls.take i).foldl step (St.new n, [])).1 := ⟨_, rfl⟩
      rw [← hstE] at hst hwf hH
      have hl0 := hwf.l0
      have hl1 := hwf.l1
      have hf03 := Fr.new2 hf02 hf hb' hbm'
      obtain ⟨ho0, ho1⟩ := oldest_range hwf key
      have hcond : (decide ((i : Int) < (vs.length : Int)) = false) ∨ (decide ((i : Int) < (vs.length : Int)) = true ∧ decide ((i : Int) < 200) = false) := by
        by_cases hx : i < ls.length
        · exact .inr ⟨decide_eq_true (by omega), decide_eq_false fun hy => hgo ⟨hx, hy⟩⟩
        · exact .inl (decide_eq_false (by omega))
      have main : ∀ e : Env, e 2 = .string key → e 7 = .pointer (some ⟨b, 0, none⟩) → W Try.prog 121 V4 C4 (retQ Try.prog [.tmp 6] K) e w3 := by
        intro e e2 e7
        rw [hC4]
        have hlo := parts_first hwf key
        have hr0 := read_in hg (Int.le_refl _) ho1 ho0
        simp (maxSteps := 4000000) (disch := (first | assumption | exact List.not_mem_nil | ((repeat (first | assumption | apply cur_alloc | apply cur_setB | apply cur_drew | apply cur_drewN)); done) | omega | (simp only [gz, Value.cells, oneC]; first | done | omega) | ((simp only [List.mem_cons, List.not_mem_nil, or_false, gz]); omega) | rfl)) only [↓gsd, gs, ev, Nat.reduceAdd, Nat.reduceEqDiff, oneC, Value.cells, Option.isNone, gt, ↓hk4, e2, e7]
        refine oldest_spec hst hwf ?_
        refine read_spec hst hwf fun w4 hf4 => ?_
        have cw4 := cur w4
        have hz4 := hf4.size
        rw [hr0]
        obtain ⟨f, hf⟩ : ∃ f, f = mkFact key (st.row key).list (st.oldest key) := ⟨_, rfl⟩
        rw [← hf] at hlo ⊢
        unfold encFact
        simp (maxSteps := 4000000) (disch := (first | assumption | exact List.not_mem_nil | ((repeat (first | assumption | apply cur_alloc | apply cur_setB | apply cur_drew | apply cur_drewN)); done) | omega | (simp only [gz, Value.cells, oneC]; first | done | omega) | ((simp only [List.mem_cons, List.not_mem_nil, or_false, gz]); omega) | rfl)) only [↓gsd, gs, ev, Nat.reduceAdd, Nat.reduceEqDiff, oneC, Value.cells, Option.isNone, gt, ↓hk4, e2, e7]
        generalize hW : World.alloc w4 _ = w5
        have hf5 : Fr [] w4 w5 := by rw [← hW]; (repeat (first | exact Fr.refl _ _ | assumption | with_reducible apply Fr.alloc | with_reducible apply Fr.drew | with_reducible refine Fr.setB ?_ _ _ (.inr (by first | omega | (simp only [gz]; omega))) | with_reducible refine Fr.setB ?_ _ _ (.inl (by first | assumption | simp)) | with_reducible refine Fr.trans' ?_ (by assumption)))
        have g9 : w5.heap[w4.heap.size]? = some (.cells (encFact f).toArray 31 (0, 0)) := by rw [← hW]; exact get_alloc_new _ _
        have hz5 : w5.heap.size = w4.heap.size + 1 := by rw [← hW]; simp only [gz]
        clear hW
        have cw5 := cur w5
        have hst5 := (hst.frN hf4).frN hf5
        have hf05 := (hf03.trans' hf4).trans' hf5
        unfold encFact at g9
        refine draw_intro [] ?_
        simp (maxSteps := 4000000) (disch := (first | assumption | exact List.not_mem_nil | ((repeat (first | assumption | apply cur_alloc | apply cur_setB | apply cur_drew | apply cur_drewN)); done) | omega | (simp only [gz, Value.cells, oneC]; first | done | omega) | ((simp only [List.mem_cons, List.not_mem_nil, or_false, gz]); omega) | rfl)) only [↓gsd, gs, ev, Nat.reduceAdd, Nat.reduceEqDiff, oneC, Value.cells, Option.isNone, gt, ↓hk4, e2, e7, g9]
        refine oldest_spec (hst5.frN (Fr.refl _ _).drew) hwf ⟨Fr.refl _ _, ?_⟩
        have dlo : decide (f.lo = st.oldest key) = true := decide_eq_true hlo
        simp (maxSteps := 4000000) (disch := (first | assumption | exact List.not_mem_nil | ((repeat (first | assumption | apply cur_alloc | apply cur_setB | apply cur_drew | apply cur_drewN)); done) | omega | (simp only [gz, Value.cells, oneC]; first | done | omega) | ((simp only [List.mem_cons, List.not_mem_nil, or_false, gz]); omega) | rfl)) only [↓gsd, gs, ev, Nat.reduceAdd, Nat.reduceEqDiff, oneC, Value.cells, Option.isNone, gt, ↓hk4, e2, e7, dlo]
        refine oldest_spec (hst5.frN (Fr.refl _ _).drew) hwf ?_
        simp (maxSteps := 4000000) (disch := (first | assumption | exact List.not_mem_nil | ((repeat (first | assumption | apply cur_alloc | apply cur_setB | apply cur_drew | apply cur_drewN)); done) | omega | (simp only [gz, Value.cells, oneC]; first | done | omega) | ((simp only [List.mem_cons, List.not_mem_nil, or_false, gz]); omega) | rfl)) only [↓gsd, gs, ev, Nat.reduceAdd, Nat.reduceEqDiff, oneC, Value.cells, Option.isNone, gt, ↓hk4, e2, e7]
        have hb4 : b < w4.heap.size ∧ bm < w4.heap.size := by have := (hst.frN hf4).lt; exact ⟨this.1, this.2.1⟩
        refine loop_intro (fun e w' => ∃ c : Int, st.oldest key + 1 ≤ c ∧ c ≤ st.last + 1 ∧ e 2 = .string key ∧ e 7 = .pointer (some ⟨b, 0, none⟩) ∧ e 9 = .pointer (some ⟨w4.heap.size, 0, none⟩) ∧ e 11 = .int .i64 c ∧
            w'.heap[w4.heap.size]? = some (.cells (encFact (mkFact key (st.row key).list (c - 1))).toArray 31 (0, 0)) ∧ Fr [w4.heap.size] w5 w')
          (fun e _ => (st.last + 1 - numOf (e 11)).toNat) ?_ ?_
        · refine ⟨st.oldest key + 1, Int.le_refl _, by omega, ?_⟩
          have e1 : st.oldest key + 1 - 1 = st.oldest key := by omega
          rw [e1, ← hf]
          unfold encFact
          simp (maxSteps := 4000000) (disch := (first | assumption | exact List.not_mem_nil | ((repeat (first | assumption | apply cur_alloc | apply cur_setB | apply cur_drew | apply cur_drewN)); done) | omega | (simp only [gz, Value.cells, oneC]; first | done | omega) | ((simp only [List.mem_cons, List.not_mem_nil, or_false, gz]); omega) | rfl)) only [↓gsd, gs, ev, Nat.reduceAdd, Nat.reduceEqDiff, oneC, Value.cells, Option.isNone, e2, e7, g9]
          exact (Fr.refl _ _).drew
        · rintro e w6 k ⟨c, hc0, hc1, e2, e7, e9, e11, h9, hf6⟩ hk
          have cw6 := cur w6
          have hz6 := hf6.size
          have hst6 := hst5.fr hf6 (by simp; omega) (by simp; omega) (by
            intro x hx cs fr hh
            simp at hx; subst hx
            rw [g9] at hh
            simp at hh)
          have hf06 : Fr [] w w6 := hf05.trans hf6 (by intro x hx; simp at hx; subst hx; right; have := hf03.size; omega)
          simp (maxSteps := 4000000) (disch := (first | assumption | exact List.not_mem_nil | ((repeat (first | assumption | apply cur_alloc | apply cur_setB | apply cur_drew | apply cur_drewN)); done) | omega | (simp only [gz, Value.cells, oneC]; first | done | omega) | ((simp only [List.mem_cons, List.not_mem_nil, or_false, gz]); omega) | rfl)) only [↓gsd, gs, ev, Nat.reduceAdd, Nat.reduceEqDiff, oneC, Value.cells, Option.isNone, gt, ↓hk4, e2, e7, e9, e11]
          refine last_spec hst6 ?_
          by_cases hcl : c ≤ st.last
          · have d3 : decide (c ≤ st.last) = true := decide_eq_true hcl
            simp (maxSteps := 4000000) (disch := (first | assumption | exact List.not_mem_nil | ((repeat (first | assumption | apply cur_alloc | apply cur_setB | apply cur_drew | apply cur_drewN)); done) | omega | (simp only [gz, Value.cells, oneC]; first | done | omega) | ((simp only [List.mem_cons, List.not_mem_nil, or_false, gz]); omega) | rfl)) only [↓gsd, gs, ev, Nat.reduceAdd, Nat.reduceEqDiff, oneC, Value.cells, Option.isNone, gt, ↓hk4, e2, e7, e9, e11, d3]
            refine read_spec hst6 hwf fun w7 hf7 => ?_
            have cw7 := cur w7
            have hz7 := hf7.size
            rw [read_in hg (by omega) hcl (by omega)]
            obtain ⟨g, hgE⟩ : ∃ g, g = mkFact key (st.row key).list c := ⟨_, rfl⟩
            obtain ⟨f', hfE⟩ : ∃ f, f = mkFact key (st.row key).list (c - 1) := ⟨_, rfl⟩
            rw [← hgE]
            rw [← hfE] at h9
            have h97 := hf7.getN h9
            unfold encFact at h97 ⊢
            have hnext := parts_next hwf key (by omega) hcl hfE hgE
            have hlt9 := lt_of_get _ _ h97
            have hkk : ∀ W : World, Fr [w4.heap.size] w7 W → W.heap[w4.heap.size]? = some (.cells (encFact g).toArray 31 (0, 0)) → k ((((((e.p 71 (.bool true)).p 12 (.pointer (some ⟨w7.heap.size, 0, none⟩))).p 13 (.int .i64 0)).p 116 (.bool false)).p 11 (.int .i64 (c + 1)))) W := by
              intro W hFW hgW
              refine hk _ _ ⟨c + 1, by omega, by omega, ?_⟩ ?_
              · have e1 : c + 1 - 1 = c := by omega
                rw [e1, ← hgE]
                simp (maxSteps := 4000000) (disch := (first | assumption | exact List.not_mem_nil | ((repeat (first | assumption | apply cur_alloc | apply cur_setB | apply cur_drew | apply cur_drewN)); done) | omega | (simp only [gz, Value.cells, oneC]; first | done | omega) | ((simp only [List.mem_cons, List.not_mem_nil, or_false, gz]); omega) | rfl)) only [↓gsd, gs, ev, Nat.reduceAdd, Nat.reduceEqDiff, oneC, Value.cells, Option.isNone, e2, e7, e9, hgW]
                exact (hf6.trans' hf7).transM hFW
              · simp (maxSteps := 4000000) (disch := (first | assumption | exact List.not_mem_nil | ((repeat (first | assumption | apply cur_alloc | apply cur_setB | apply cur_drew | apply cur_drewN)); done) | omega | (simp only [gz, Value.cells, oneC]; first | done | omega) | ((simp only [List.mem_cons, List.not_mem_nil, or_false, gz]); omega) | rfl)) only [↓gsd, gs, ev, Nat.reduceAdd, Nat.reduceEqDiff, oneC, Value.cells, Option.isNone, e11, numOf]; omega
            rcases hnext with ⟨he, hlt⟩ | ⟨hne, hfhi, hglo, hghi⟩
            · subst he
              have d4 : decide (g.hi ≤ c) = false := decide_eq_false (by omega)
              unfold encFact at hkk
              simp (maxSteps := 4000000) (disch := (first | assumption | exact List.not_mem_nil | ((repeat (first | assumption | apply cur_alloc | apply cur_setB | apply cur_drew | apply cur_drewN)); done) | omega | (simp only [gz, Value.cells, oneC]; first | done | omega) | ((simp only [List.mem_cons, List.not_mem_nil, or_false, gz]); omega) | rfl)) only [↓gsd, gs, ev, Nat.reduceAdd, Nat.reduceEqDiff, oneC, Value.cells, Option.isNone, gt, ↓hk4, e2, e7, e9, e11, h97, d4]
              exact hkk _ (by (repeat (first | exact Fr.refl _ _ | assumption | with_reducible apply Fr.alloc | with_reducible apply Fr.drew | with_reducible refine Fr.setB ?_ _ _ (.inr (by first | omega | (simp only [gz]; omega))) | with_reducible refine Fr.setB ?_ _ _ (.inl (by first | assumption | simp)) | with_reducible refine Fr.trans' ?_ (by assumption)))) (by simp (maxSteps := 4000000) (disch := (first | assumption | exact List.not_mem_nil | ((repeat (first | assumption | apply cur_alloc | apply cur_setB | apply cur_drew | apply cur_drewN)); done) | omega | (simp only [gz, Value.cells, oneC]; first | done | omega) | ((simp only [List.mem_cons, List.not_mem_nil, or_false, gz]); omega) | rfl)) only [↓gsd, gs, ev, Nat.reduceAdd, Nat.reduceEqDiff, oneC, Value.cells, Option.isNone])
            · have d4 : decide (g.lo = f'.lo) = false := decide_eq_false hne
              have d5 : decide (f'.hi = c) = true := decide_eq_true hfhi
              have d6 : decide (g.lo = c) = true := decide_eq_true hglo
              have d7 : decide (g.hi ≤ c) = false := decide_eq_false (by omega)
              unfold encFact at hkk
              simp (maxSteps := 4000000) (disch := (first | assumption | exact List.not_mem_nil | ((repeat (first | assumption | apply cur_alloc | apply cur_setB | apply cur_drew | apply cur_drewN)); done) | omega | (simp only [gz, Value.cells, oneC]; first | done | omega) | ((simp only [List.mem_cons, List.not_mem_nil, or_false, gz]); omega) | rfl)) only [↓gsd, gs, ev, Nat.reduceAdd, Nat.reduceEqDiff, oneC, Value.cells, Option.isNone, gt, ↓hk4, e2, e7, e9, e11, h97, d4, d5, d6, d7, Bool.and_false, Bool.false_and, Bool.true_and]
              exact hkk _ (by (repeat (first | exact Fr.refl _ _ | assumption | with_reducible apply Fr.alloc | with_reducible apply Fr.drew | with_reducible refine Fr.setB ?_ _ _ (.inr (by first | omega | (simp only [gz]; omega))) | with_reducible refine Fr.setB ?_ _ _ (.inl (by first | assumption | simp)) | with_reducible refine Fr.trans' ?_ (by assumption)))) (by simp (maxSteps := 4000000) (disch := (first | assumption | exact List.not_mem_nil | ((repeat (first | assumption | apply cur_alloc | apply cur_setB | apply cur_drew | apply cur_drewN)); done) | omega | (simp only [gz, Value.cells, oneC]; first | done | omega) | ((simp only [List.mem_cons, List.not_mem_nil, or_false, gz]); omega) | rfl)) only [↓gsd, gs, ev, Nat.reduceAdd, Nat.reduceEqDiff, oneC, Value.cells, Option.isNone])
          · have d3 : decide (c ≤ st.last) = false := decide_eq_false hcl
            obtain rfl : c = st.last + 1 := by omega
            have e1 : st.last + 1 - 1 = st.last := by omega
            have hend := parts_end hwf key
            rw [e1] at h9
            obtain ⟨f', hfE⟩ : ∃ f, f = mkFact key (st.row key).list st.last := ⟨_, rfl⟩
            rw [← hfE] at h9 hend
            have d4 : decide (f'.hi = 4611686018427387904) = true := decide_eq_true hend
            unfold encFact at h9
            simp (maxSteps := 4000000) (disch := (first | assumption | exact List.not_mem_nil | ((repeat (first | assumption | apply cur_alloc | apply cur_setB | apply cur_drew | apply cur_drewN)); done) | omega | (simp only [gz, Value.cells, oneC]; first | done | omega) | ((simp only [List.mem_cons, List.not_mem_nil, or_false, gz]); omega) | rfl)) only [↓gsd, gs, ev, Nat.reduceAdd, Nat.reduceEqDiff, oneC, Value.cells, Option.isNone, gt, ↓hk4, e2, e7, e9, e11, d3, d4, h9]
            exact hK _ hf06
      rcases hcond with d | ⟨d, d'⟩
      · simp (maxSteps := 4000000) (disch := (first | assumption | exact List.not_mem_nil | ((repeat (first | assumption | apply cur_alloc | apply cur_setB | apply cur_drew | apply cur_drewN)); done) | omega | (simp only [gz, Value.cells, oneC]; first | done | omega) | ((simp only [List.mem_cons, List.not_mem_nil, or_false, gz]); omega) | rfl)) only [↓gsd, gs, ev, Nat.reduceAdd, Nat.reduceEqDiff, oneC, Value.cells, Option.isNone, gt, ↓hk4, e0, e1, e2, e7, e8, d, hlv]
        exact main _ (by simp (maxSteps := 4000000) (disch := (first | assumption | exact List.not_mem_nil | ((repeat (first | assumption | apply cur_alloc | apply cur_setB | apply cur_drew | apply cur_drewN)); done) | omega | (simp only [gz, Value.cells, oneC]; first | done | omega) | ((simp only [List.mem_cons, List.not_mem_nil, or_false, gz]); omega) | rfl)) only [↓gsd, gs, ev, Nat.reduceAdd, Nat.reduceEqDiff, oneC, Value.cells, Option.isNone, e2]) (by simp (maxSteps := 4000000) (disch := (first | assumption | exact List.not_mem_nil | ((repeat (first | assumption | apply cur_alloc | apply cur_setB | apply cur_drew | apply cur_drewN)); done) | omega | (simp only [gz, Value.cells, oneC]; first | done | omega) | ((simp only [List.mem_cons, List.not_mem_nil, or_false, gz]); omega) | rfl)) only [↓gsd, gs, ev, Nat.reduceAdd, Nat.reduceEqDiff, oneC, Value.cells, Option.isNone, e7])
      · simp (maxSteps := 4000000) (disch := (first | assumption | exact List.not_mem_nil | ((repeat (first | assumption | apply cur_alloc | apply cur_setB | apply cur_drew | apply cur_drewN)); done) | omega | (simp only [gz, Value.cells, oneC]; first | done | omega) | ((simp only [List.mem_cons, List.not_mem_nil, or_false, gz]); omega) | rfl)) only [↓gsd, gs, ev, Nat.reduceAdd, Nat.reduceEqDiff, oneC, Value.cells, Option.isNone, gt, ↓hk4, e0, e1, e2, e7, e8, d, d', hlv]
        exact main _ (by simp (maxSteps := 4000000) (disch := (first | assumption | exact List.not_mem_nil | ((repeat (first | assumption | apply cur_alloc | apply cur_setB | apply cur_drew | apply cur_drewN)); done) | omega | (simp only [gz, Value.cells, oneC]; first | done | omega) | ((simp only [List.mem_cons, List.not_mem_nil, or_false, gz]); omega) | rfl)) only [↓gsd, gs, ev, Nat.reduceAdd, Nat.reduceEqDiff, oneC, Value.cells, Option.isNone, e2]) (by simp (maxSteps := 4000000) (disch := (first | assumption | exact List.not_mem_nil | ((repeat (first | assumption | apply cur_alloc | apply cur_setB | apply cur_drew | apply cur_drewN)); done) | omega | (simp only [gz, Value.cells, oneC]; first | done | omega) | ((simp only [List.mem_cons, List.not_mem_nil, or_false, gz]); omega) | rfl)) only [↓gsd, gs, ev, Nat.reduceAdd, Nat.reduceEqDiff, oneC, Value.cells, Option.isNone, e7])
end Go.Proofs.Ytenokheiindfkaa
