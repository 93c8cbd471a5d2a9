/- GapLacks walked. -/
import Derived.Test.YtenokheiindfkaaN1
import Derived.Test.YtenokheiindfkaaM3
import Derived.Test.YtenokheiindfkaaWC
import Derived.Test.YtenokheiindfkaaO1
set_option linter.unusedVariables false
set_option linter.unusedSimpArgs false
set_option maxRecDepth 10000
namespace Go.Proofs.Ytenokheiindfkaa
open Go.VW
set_option maxHeartbeats 8000000 in
theorem lacksLaw {m : Int} {pv : Value} {ps : List Int} {w : World} {K : Value → World → Prop} (hm0 : 0 ≤ m) (hm1 : m < 256) (h : SlOf 1 encU w pv ps) (hr : ∀ x ∈ ps, 0 ≤ x ∧ x < 65536) (hl : ps.length ≤ 9223372036854775807)
    (hK : ∀ w', Fr [] w w' → K (.bool true) w') : CallsN Try.prog 11 [.int .u8 m, pv] w K := by
  have cw := cur w
  obtain ⟨pa, pc, hpv⟩ := h.form
  refine call11 ?_
  simp (maxSteps := 4000000) (disch := (first | assumption | exact List.not_mem_nil | ((repeat (first | assumption | apply cur_alloc | apply cur_setB | apply cur_drew | apply cur_drewN)); done) | omega | (simp only [gz, Value.cells, oneC]; first | done | omega) | ((simp only [List.mem_cons, List.not_mem_nil, or_false, gz]); omega) | rfl)) only [↓gsd, gs, ev, Nat.reduceAdd, Nat.reduceEqDiff, oneC, Value.cells, Option.isNone, gt, ↓hk11]
  refine fixedG fun w1 hf1 => ?_
  have cw1 := cur w1
  have hz1 := hf1.size
  simp (maxSteps := 4000000) (disch := (first | assumption | exact List.not_mem_nil | ((repeat (first | assumption | apply cur_alloc | apply cur_setB | apply cur_drew | apply cur_drewN)); done) | omega | (simp only [gz, Value.cells, oneC]; first | done | omega) | ((simp only [List.mem_cons, List.not_mem_nil, or_false, gz]); omega) | rfl)) only [↓gsd, gs, ev, Nat.reduceAdd, Nat.reduceEqDiff, oneC, Value.cells, Option.isNone, gt, ↓hk11]
  refine newI fun gb gm w2 hf2 hgb hgm h2 => ?_
  have cw2 := cur w2
  have hz2 := hf2.size
  have hf02 := hf1.trans' hf2
  have hfin : ∀ w', Fr [gb, gm] w2 w' → Fr [] w w' := fun w' hf' => hf02.trans hf' fun x hx => by simp at hx; exact .inr (by omega)
  simp (maxSteps := 4000000) (disch := (first | assumption | exact List.not_mem_nil | ((repeat (first | assumption | apply cur_alloc | apply cur_setB | apply cur_drew | apply cur_drewN)); done) | omega | (simp only [gz, Value.cells, oneC]; first | done | omega) | ((simp only [List.mem_cons, List.not_mem_nil, or_false, gz]); omega) | rfl)) only [↓gsd, gs, ev, Nat.reduceAdd, Nat.reduceEqDiff, oneC, Value.cells, Option.isNone, gt, ↓hk11]
  refine loop_intro (fun e w' => ∃ (i : Nat) (g : GS Int), i ≤ ps.length ∧ e 0 = .int .u8 m ∧ e 1 = pv ∧ e 5 = .pointer (some ⟨gb, 0, none⟩) ∧ e 6 = .int .i64 i ∧
      GapAtI w' gb gm g ∧ g.WF ∧ Fr [gb, gm] w2 w')
    (fun e _ => ps.length - (numOf (e 6)).toNat) ?_ ?_
  · refine ⟨0, GS.new 10 m, Nat.zero_le _, ?_⟩
    simp (maxSteps := 4000000) (disch := (first | assumption | exact List.not_mem_nil | ((repeat (first | assumption | apply cur_alloc | apply cur_setB | apply cur_drew | apply cur_drewN)); done) | omega | (simp only [gz, Value.cells, oneC]; first | done | omega) | ((simp only [List.mem_cons, List.not_mem_nil, or_false, gz]); omega) | rfl)) only [↓gsd, gs, ev, Nat.reduceAdd, Nat.reduceEqDiff, oneC, Value.cells, Option.isNone, Int.natCast_zero]
    exact ⟨h2, GS.new_wf _ _, Fr.refl _ _⟩
  · rintro e w3 k ⟨i, g0, hi, e0, e1, e5, e6, hg, hwf0, hf⟩ hk
    have cw3 := cur w3
    have hz3 := hf.size
    by_cases hil : i < ps.length
    · have el : decide ((i : Int) < (ps.length : Int)) = true := decide_eq_true (by omega)
      obtain ⟨n, hn⟩ : ∃ n, ps[i]? = some n := ⟨ps[i], List.getElem?_eq_getElem hil⟩
      obtain ⟨hn0, hn1⟩ := hr n (List.mem_of_getElem? hn)
      have hp3 := h.frN (hfin w3 hf)
      obtain ⟨bb, off, cap, ob, hv1, hob, _, _, hcell⟩ := hp3.read (fun _ => rfl) i n hn
      have hc0 := fun orig K => hcell 0 (.int .u16 n) orig K rfl
      simp only [Nat.add_zero, Nat.mul_one] at hc0
      have i0 : (0 : Int) ≤ (i : Int) := by omega
      have i1 : (i : Int) < (ps.length : Int) := by omega
      simp (maxSteps := 4000000) (disch := (first | assumption | exact List.not_mem_nil | ((repeat (first | assumption | apply cur_alloc | apply cur_setB | apply cur_drew | apply cur_drewN)); done) | omega | (simp only [gz, Value.cells, oneC]; first | done | omega) | ((simp only [List.mem_cons, List.not_mem_nil, or_false, gz]); omega) | rfl)) only [↓gsd, gs, ev, Nat.reduceAdd, Nat.reduceEqDiff, oneC, Value.cells, Option.isNone, gt, ↓hk11, e0, e1, e5, e6, hv1, el, i0, i1, Int.toNat_natCast, Nat.mul_one, hob, hc0]
      refine putI hg hwf0 fun vo w4 _ _ hf4 hg4 => ?_
      have cw4 := cur w4
      have hz4 := hf4.size
      have hwf := hwf0.put n (i : Int)
      obtain ⟨g, hgE⟩ : ∃ g', g' = (g0.put n (i : Int)).2 := ⟨_, rfl⟩
      rw [← hgE] at hg4 hwf
      clear hgE
      have ha0 := hwf.a0
      have ha1 := hwf.a1
      have hf4' := hf.transM hf4
      have hlt4 := hg4.lt
      try simp (maxSteps := 4000000) (disch := (first | assumption | exact List.not_mem_nil | ((repeat (first | assumption | apply cur_alloc | apply cur_setB | apply cur_drew | apply cur_drewN)); done) | omega | (simp only [gz, Value.cells, oneC]; first | done | omega) | ((simp only [List.mem_cons, List.not_mem_nil, or_false, gz]); omega) | rfl)) only [↓gsd, gs, ev, Nat.reduceAdd, Nat.reduceEqDiff, oneC, Value.cells, Option.isNone, gt, ↓hk11, e0, e1, e5, e6]
      refine waitsI hg4 hwf fun vw w5 hw5 hf5 hfr5 => ?_
      have cw5 := cur w5
      have hz5 := hf5.size
      obtain ⟨va, vc, hvw⟩ := hw5.sl.form
      try simp (maxSteps := 4000000) (disch := (first | assumption | exact List.not_mem_nil | ((repeat (first | assumption | apply cur_alloc | apply cur_setB | apply cur_drew | apply cur_drewN)); done) | omega | (simp only [gz, Value.cells, oneC]; first | done | omega) | ((simp only [List.mem_cons, List.not_mem_nil, or_false, gz]); omega) | rfl)) only [↓gsd, gs, ev, Nat.reduceAdd, Nat.reduceEqDiff, oneC, Value.cells, Option.isNone, gt, ↓hk11, e0, e1, e5, e6]
      refine lacksI (hg4.frN hf5) hwf fun w6 hf6 => ?_
      have cw6 := cur w6
      have hz6 := hf6.size
      try simp (maxSteps := 4000000) (disch := (first | assumption | exact List.not_mem_nil | ((repeat (first | assumption | apply cur_alloc | apply cur_setB | apply cur_drew | apply cur_drewN)); done) | omega | (simp only [gz, Value.cells, oneC]; first | done | omega) | ((simp only [List.mem_cons, List.not_mem_nil, or_false, gz]); omega) | rfl)) only [↓gsd, gs, ev, Nat.reduceAdd, Nat.reduceEqDiff, oneC, Value.cells, Option.isNone, gt, ↓hk11, e0, e1, e5, e6]
      generalize hW : World.alloc w6 _ = w7
      have hf7 : Fr [] w6 w7 := by rw [← hW]; (repeat (first | exact Fr.refl _ _ | assumption | with_reducible apply Fr.alloc | with_reducible apply Fr.drew | with_reducible refine Fr.setB ?_ _ _ (.inr (by first | omega | (simp only [gz]; omega))) | with_reducible refine Fr.setB ?_ _ _ (.inl (by first | assumption | simp)) | with_reducible refine Fr.trans' ?_ (by assumption)))
      have hz7 : w7.heap.size = w6.heap.size + 1 := by rw [← hW]; simp only [gz]
      have g8 : w7.heap[w6.heap.size]? = some (.cells ([.int .i64 g.lacks.1, .int .i64 g.lacks.2] : List Value).toArray 86 (0, 0)) := by rw [← hW]; exact get_alloc_new _ _
      clear hW
      have cw7 := cur w7
      have hg7 := ((hg4.frN hf5).frN hf6).frN hf7
      have hf47 := (hf5.trans' hf6).trans' hf7
      have hkk : ∀ (e' : Env) (w' : World), e' 0 = .int .u8 m → e' 1 = pv → e' 5 = .pointer (some ⟨gb, 0, none⟩) → e' 6 = .int .i64 (i + 1) → Fr [] w7 w' → k e' w' := by
        intro e' w' q0 q1 q5 q6 hf'
        refine hk _ _ ⟨i + 1, g, by omega, q0, q1, q5, by rw [q6]; simp, hg7.frN hf', hwf, (hf4'.trans' hf47).trans' hf'⟩ ?_
        have e3 : ((i : Int) + 1).toNat = i + 1 := by omega
        simp only [q6, e6, numOf, Int.toNat_natCast, e3]; omega
      by_cases hwe : g.ws.length = 0
      · have d : decide ((g.ws.length : Int) = 0) = true := decide_eq_true (by omega)
        have e : g.lacks = (0, 0) := by unfold GS.lacks; rw [if_pos hwe]
        rw [e] at g8
        have hlt8 := lt_of_get _ _ g8
        simp (maxSteps := 4000000) (disch := (first | assumption | exact List.not_mem_nil | ((repeat (first | assumption | apply cur_alloc | apply cur_setB | apply cur_drew | apply cur_drewN)); done) | omega | (simp only [gz, Value.cells, oneC]; first | done | omega) | ((simp only [List.mem_cons, List.not_mem_nil, or_false, gz]); omega) | rfl)) only [↓gsd, gs, ev, Nat.reduceAdd, Nat.reduceEqDiff, oneC, Value.cells, Option.isNone, gt, ↓hk11, e0, e1, e5, e6, hvw, d, g8]
        refine emptyN fun w8 hf8 => ?_
        have cw8 := cur w8
        have d0 : decide ((0 : Int) ≤ 0) = true := by decide
        simp (maxSteps := 4000000) (disch := (first | assumption | exact List.not_mem_nil | ((repeat (first | assumption | apply cur_alloc | apply cur_setB | apply cur_drew | apply cur_drewN)); done) | omega | (simp only [gz, Value.cells, oneC]; first | done | omega) | ((simp only [List.mem_cons, List.not_mem_nil, or_false, gz]); omega) | rfl)) only [↓gsd, gs, ev, Nat.reduceAdd, Nat.reduceEqDiff, oneC, Value.cells, Option.isNone, gt, ↓hk11, e0, e1, e5, e6, d0]
        exact hkk _ _ (by simp (maxSteps := 4000000) (disch := (first | assumption | exact List.not_mem_nil | ((repeat (first | assumption | apply cur_alloc | apply cur_setB | apply cur_drew | apply cur_drewN)); done) | omega | (simp only [gz, Value.cells, oneC]; first | done | omega) | ((simp only [List.mem_cons, List.not_mem_nil, or_false, gz]); omega) | rfl)) only [↓gsd, gs, ev, Nat.reduceAdd, Nat.reduceEqDiff, oneC, Value.cells, Option.isNone, e0]) (by simp (maxSteps := 4000000) (disch := (first | assumption | exact List.not_mem_nil | ((repeat (first | assumption | apply cur_alloc | apply cur_setB | apply cur_drew | apply cur_drewN)); done) | omega | (simp only [gz, Value.cells, oneC]; first | done | omega) | ((simp only [List.mem_cons, List.not_mem_nil, or_false, gz]); omega) | rfl)) only [↓gsd, gs, ev, Nat.reduceAdd, Nat.reduceEqDiff, oneC, Value.cells, Option.isNone, e1]) (by simp (maxSteps := 4000000) (disch := (first | assumption | exact List.not_mem_nil | ((repeat (first | assumption | apply cur_alloc | apply cur_setB | apply cur_drew | apply cur_drewN)); done) | omega | (simp only [gz, Value.cells, oneC]; first | done | omega) | ((simp only [List.mem_cons, List.not_mem_nil, or_false, gz]); omega) | rfl)) only [↓gsd, gs, ev, Nat.reduceAdd, Nat.reduceEqDiff, oneC, Value.cells, Option.isNone, e5]) (by simp (maxSteps := 4000000) (disch := (first | assumption | exact List.not_mem_nil | ((repeat (first | assumption | apply cur_alloc | apply cur_setB | apply cur_drew | apply cur_drewN)); done) | omega | (simp only [gz, Value.cells, oneC]; first | done | omega) | ((simp only [List.mem_cons, List.not_mem_nil, or_false, gz]); omega) | rfl)) only [↓gsd, gs, ev, Nat.reduceAdd, Nat.reduceEqDiff, oneC, Value.cells, Option.isNone, e6]) hf8
      · have d : decide ((g.ws.length : Int) = 0) = false := decide_eq_false (by omega)
        obtain ⟨y, hy⟩ : ∃ y, (sortI (g.ws.map (·.1)))[0]? = some y := by
          have := sortI_len (g.ws.map (·.1))
          rw [List.length_map] at this
          exact ⟨_, List.getElem?_eq_getElem (by omega)⟩
        have e : g.lacks = (g.at_ + 1, y) := by unfold GS.lacks; rw [if_neg hwe, List.head?_eq_getElem?, hy]; rfl
        rw [e] at g8
        simp only at g8
        have hym := (sortI_mem _ _).1 (List.mem_of_getElem? hy)
        obtain ⟨q, hq, hqy⟩ := List.mem_map.1 hym
        have hrq := hwf.rng q hq
        rw [hqy] at hrq
        have hsw : SlOf 1 (fun v : Int => [Value.int .i64 v]) w7 vw (sortI (g.ws.map (·.1))) := (sl_ints hw5).frN (hf6.trans' hf7)
        obtain ⟨bw, ow, cw', wob, hvw1, hwob, _, _, hwc⟩ := hsw.read (fun _ => rfl) 0 y hy
        have hd1 := fun orig K => hwc 0 (.int .i64 y) orig K rfl
        simp only [Nat.zero_mul, Nat.add_zero] at hd1
        rw [sortI_len, List.length_map] at hvw1
        have i0' : (0 : Int) ≤ (0 : Int) := by omega
        have i1' : (0 : Int) < (g.ws.length : Int) := by omega
        have hlt8 := lt_of_get _ _ g8
        have hltw := lt_of_get _ _ hwob
        have dY : decide (y ≤ g.at_ + 1) = false := decide_eq_false (by omega)
        simp (maxSteps := 4000000) (disch := (first | assumption | exact List.not_mem_nil | ((repeat (first | assumption | apply cur_alloc | apply cur_setB | apply cur_drew | apply cur_drewN)); done) | omega | (simp only [gz, Value.cells, oneC]; first | done | omega) | ((simp only [List.mem_cons, List.not_mem_nil, or_false, gz]); omega) | rfl)) only [↓gsd, gs, ev, Nat.reduceAdd, Nat.reduceEqDiff, oneC, Value.cells, Option.isNone, gt, ↓hk11, e0, e1, e5, e6, hvw1, d, g8]
        refine draw_intro [] ?_
        simp (maxSteps := 4000000) (disch := (first | assumption | exact List.not_mem_nil | ((repeat (first | assumption | apply cur_alloc | apply cur_setB | apply cur_drew | apply cur_drewN)); done) | omega | (simp only [gz, Value.cells, oneC]; first | done | omega) | ((simp only [List.mem_cons, List.not_mem_nil, or_false, gz]); omega) | rfl)) only [↓gsd, gs, ev, Nat.reduceAdd, Nat.reduceEqDiff, oneC, Value.cells, Option.isNone, gt, ↓hk11, e0, e1, e5, e6, g8]
        refine atI (hg7.frN (Fr.refl _ _).drew) ?_
        simp (maxSteps := 4000000) (disch := (first | assumption | exact List.not_mem_nil | ((repeat (first | assumption | apply cur_alloc | apply cur_setB | apply cur_drew | apply cur_drewN)); done) | omega | (simp only [gz, Value.cells, oneC]; first | done | omega) | ((simp only [List.mem_cons, List.not_mem_nil, or_false, gz]); omega) | rfl)) only [↓gsd, gs, ev, Nat.reduceAdd, Nat.reduceEqDiff, oneC, Value.cells, Option.isNone, gt, ↓hk11, e0, e1, e5, e6, g8, i0', i1', Int.toNat_zero, Nat.zero_mul, Nat.add_zero, hwob, hd1, dY]
        refine ⟨Fr.refl _ _, ?_⟩
        by_cases hbig : 200 < y - (g.at_ + 1)
        · have dB : decide (200 < y - (g.at_ + 1)) = true := decide_eq_true hbig
          simp (maxSteps := 4000000) (disch := (first | assumption | exact List.not_mem_nil | ((repeat (first | assumption | apply cur_alloc | apply cur_setB | apply cur_drew | apply cur_drewN)); done) | omega | (simp only [gz, Value.cells, oneC]; first | done | omega) | ((simp only [List.mem_cons, List.not_mem_nil, or_false, gz]); omega) | rfl)) only [↓gsd, gs, ev, Nat.reduceAdd, Nat.reduceEqDiff, oneC, Value.cells, Option.isNone, gt, ↓hk11, e0, e1, e5, e6, dB]
          exact hkk _ _ (by simp (maxSteps := 4000000) (disch := (first | assumption | exact List.not_mem_nil | ((repeat (first | assumption | apply cur_alloc | apply cur_setB | apply cur_drew | apply cur_drewN)); done) | omega | (simp only [gz, Value.cells, oneC]; first | done | omega) | ((simp only [List.mem_cons, List.not_mem_nil, or_false, gz]); omega) | rfl)) only [↓gsd, gs, ev, Nat.reduceAdd, Nat.reduceEqDiff, oneC, Value.cells, Option.isNone, e0]) (by simp (maxSteps := 4000000) (disch := (first | assumption | exact List.not_mem_nil | ((repeat (first | assumption | apply cur_alloc | apply cur_setB | apply cur_drew | apply cur_drewN)); done) | omega | (simp only [gz, Value.cells, oneC]; first | done | omega) | ((simp only [List.mem_cons, List.not_mem_nil, or_false, gz]); omega) | rfl)) only [↓gsd, gs, ev, Nat.reduceAdd, Nat.reduceEqDiff, oneC, Value.cells, Option.isNone, e1]) (by simp (maxSteps := 4000000) (disch := (first | assumption | exact List.not_mem_nil | ((repeat (first | assumption | apply cur_alloc | apply cur_setB | apply cur_drew | apply cur_drewN)); done) | omega | (simp only [gz, Value.cells, oneC]; first | done | omega) | ((simp only [List.mem_cons, List.not_mem_nil, or_false, gz]); omega) | rfl)) only [↓gsd, gs, ev, Nat.reduceAdd, Nat.reduceEqDiff, oneC, Value.cells, Option.isNone, e5]) (by simp (maxSteps := 4000000) (disch := (first | assumption | exact List.not_mem_nil | ((repeat (first | assumption | apply cur_alloc | apply cur_setB | apply cur_drew | apply cur_drewN)); done) | omega | (simp only [gz, Value.cells, oneC]; first | done | omega) | ((simp only [List.mem_cons, List.not_mem_nil, or_false, gz]); omega) | rfl)) only [↓gsd, gs, ev, Nat.reduceAdd, Nat.reduceEqDiff, oneC, Value.cells, Option.isNone, e6]) (Fr.refl _ _).drew
        · have dB : decide (200 < y - (g.at_ + 1)) = false := decide_eq_false hbig
          simp (maxSteps := 4000000) (disch := (first | assumption | exact List.not_mem_nil | ((repeat (first | assumption | apply cur_alloc | apply cur_setB | apply cur_drew | apply cur_drewN)); done) | omega | (simp only [gz, Value.cells, oneC]; first | done | omega) | ((simp only [List.mem_cons, List.not_mem_nil, or_false, gz]); omega) | rfl)) only [↓gsd, gs, ev, Nat.reduceAdd, Nat.reduceEqDiff, oneC, Value.cells, Option.isNone, gt, ↓hk11, e0, e1, e5, e6, dB]
          refine cloneI (hg7.frN (Fr.refl _ _).drew) fun gb' gm' w8 hf8 hgb' hgm' hc8 => ?_
          have cw8 := cur w8
          have hz8 := hf8.size
          rw [size_drew] at hz8 hgb' hgm'
          have hf78 : Fr [] w7 w8 := (Fr.refl _ _).drew.trans' hf8
          have k8 := hf78.getN g8
          have kw := hf78.getN hwob
          simp (maxSteps := 4000000) (disch := (first | assumption | exact List.not_mem_nil | ((repeat (first | assumption | apply cur_alloc | apply cur_setB | apply cur_drew | apply cur_drewN)); done) | omega | (simp only [gz, Value.cells, oneC]; first | done | omega) | ((simp only [List.mem_cons, List.not_mem_nil, or_false, gz]); omega) | rfl)) only [↓gsd, gs, ev, Nat.reduceAdd, Nat.reduceEqDiff, oneC, Value.cells, Option.isNone, gt, ↓hk11, e0, e1, e5, e6, k8]
          have hfin' : ∀ w', Fr [gb', gm'] w8 w' → Fr [] w7 w' := fun w' hf' => hf78.trans hf' fun x hx => by simp at hx; exact .inr (by omega)
          refine loop_intro (fun e w' => ∃ (nn : Int) (gc : GS Int), g.at_ + 1 ≤ nn ∧ nn ≤ y ∧ e 0 = .int .u8 m ∧ e 1 = pv ∧ e 5 = .pointer (some ⟨gb, 0, none⟩) ∧ e 6 = .int .i64 i ∧ e 7 = .slice (some ⟨bw, ow, none⟩) g.ws.length cw' ∧ e 8 = .pointer (some ⟨w6.heap.size, 0, none⟩) ∧
              e 9 = .pointer (some ⟨gb', 0, none⟩) ∧ e 10 = .int .i64 nn ∧ GapAtI w' gb' gm' gc ∧ gc.WF ∧ (nn < y → gc = ⟨nn - 1, g.most, g.ws⟩) ∧ (nn = y → y ≤ gc.at_ ∧ gc.ws.length < g.ws.length) ∧ Fr [gb', gm'] w8 w')
            (fun e _ => (y - numOf (e 10)).toNat) ?_ ?_
          · refine ⟨g.at_ + 1, g, Int.le_refl _, by omega, ?_⟩
            simp (maxSteps := 4000000) (disch := (first | assumption | exact List.not_mem_nil | ((repeat (first | assumption | apply cur_alloc | apply cur_setB | apply cur_drew | apply cur_drewN)); done) | omega | (simp only [gz, Value.cells, oneC]; first | done | omega) | ((simp only [List.mem_cons, List.not_mem_nil, or_false, gz]); omega) | rfl)) only [↓gsd, gs, ev, Nat.reduceAdd, Nat.reduceEqDiff, oneC, Value.cells, Option.isNone, e0, e1, e5, e6]
            refine ⟨hc8, hwf, fun _ => ?_, fun hh => by omega, Fr.refl _ _⟩
            have : g.at_ + 1 - 1 = g.at_ := by omega
            rw [this]
          · rintro e w9 k' ⟨nn, gc, hn0', hn1', e0, e1, e5, e6, e7, e8, e9, e10, hc9, hcwf, hmid, hend, hf9⟩ hk'
            have cw9 := cur w9
            have hz9 := hf9.size
            have k8' := hf9.get k8 (by simp; omega)
            have kw' := hf9.get kw (by simp; omega)
            have hlt9 := hc9.lt
            have hl8' := lt_of_get _ _ k8'
            have hlw' := lt_of_get _ _ kw'
            by_cases hny : nn < y
            · have dn : decide (nn < y) = true := decide_eq_true hny
              obtain rfl := hmid hny
              simp (maxSteps := 4000000) (disch := (first | assumption | exact List.not_mem_nil | ((repeat (first | assumption | apply cur_alloc | apply cur_setB | apply cur_drew | apply cur_drewN)); done) | omega | (simp only [gz, Value.cells, oneC]; first | done | omega) | ((simp only [List.mem_cons, List.not_mem_nil, or_false, gz]); omega) | rfl)) only [↓gsd, gs, ev, Nat.reduceAdd, Nat.reduceEqDiff, oneC, Value.cells, Option.isNone, gt, ↓hk11, e0, e1, e5, e6, e7, e8, e9, e10, k8', dn]
              refine putI hc9 hcwf fun vo' w10 _ _ hf10 hc10 => ?_
              have cw10 := cur w10
              have hz10 := hf10.size
              have hok := lacks_put hwf (-1 : Int) hy (by omega : g.at_ < nn) hny (by omega)
              have hwf10 := hcwf.put nn (-1)
              have hov := hok.over
              simp (maxSteps := 4000000) (disch := (first | assumption | exact List.not_mem_nil | ((repeat (first | assumption | apply cur_alloc | apply cur_setB | apply cur_drew | apply cur_drewN)); done) | omega | (simp only [gz, Value.cells, oneC]; first | done | omega) | ((simp only [List.mem_cons, List.not_mem_nil, or_false, gz]); omega) | rfl)) only [↓gsd, gs, ev, Nat.reduceAdd, Nat.reduceEqDiff, oneC, Value.cells, Option.isNone, gt, ↓hk11, e0, e1, e5, e6, e7, e8, e9, e10, hov]
              refine hk' _ _ ⟨nn + 1, ((⟨nn - 1, g.most, g.ws⟩ : GS Int).put nn (-1)).2, by omega, by omega, ?_⟩ ?_
              · simp (maxSteps := 4000000) (disch := (first | assumption | exact List.not_mem_nil | ((repeat (first | assumption | apply cur_alloc | apply cur_setB | apply cur_drew | apply cur_drewN)); done) | omega | (simp only [gz, Value.cells, oneC]; first | done | omega) | ((simp only [List.mem_cons, List.not_mem_nil, or_false, gz]); omega) | rfl)) only [↓gsd, gs, ev, Nat.reduceAdd, Nat.reduceEqDiff, oneC, Value.cells, Option.isNone, e0, e1, e5, e6, e7, e8, e9, e10]
                refine ⟨hc10, hwf10, fun hh => ?_, fun hh => hok.fin hh, hf9.transM hf10⟩
                have e3 : nn + 1 - 1 = nn := by omega
                rw [hok.mid hh, e3]
              · simp (maxSteps := 4000000) (disch := (first | assumption | exact List.not_mem_nil | ((repeat (first | assumption | apply cur_alloc | apply cur_setB | apply cur_drew | apply cur_drewN)); done) | omega | (simp only [gz, Value.cells, oneC]; first | done | omega) | ((simp only [List.mem_cons, List.not_mem_nil, or_false, gz]); omega) | rfl)) only [↓gsd, gs, ev, Nat.reduceAdd, Nat.reduceEqDiff, oneC, Value.cells, Option.isNone, e10, numOf]; omega
            · have dn : decide (nn < y) = false := decide_eq_false hny
              obtain ⟨hy1, hy2⟩ := hend (by omega)
              have hc9' := hc9.frN (Fr.refl _ w9).drew
              simp (maxSteps := 4000000) (disch := (first | assumption | exact List.not_mem_nil | ((repeat (first | assumption | apply cur_alloc | apply cur_setB | apply cur_drew | apply cur_drewN)); done) | omega | (simp only [gz, Value.cells, oneC]; first | done | omega) | ((simp only [List.mem_cons, List.not_mem_nil, or_false, gz]); omega) | rfl)) only [↓gsd, gs, ev, Nat.reduceAdd, Nat.reduceEqDiff, oneC, Value.cells, Option.isNone, gt, ↓hk11, e0, e1, e5, e6, e7, e8, e9, e10, k8', dn]
              refine draw_intro [] ?_
              simp (maxSteps := 4000000) (disch := (first | assumption | exact List.not_mem_nil | ((repeat (first | assumption | apply cur_alloc | apply cur_setB | apply cur_drew | apply cur_drewN)); done) | omega | (simp only [gz, Value.cells, oneC]; first | done | omega) | ((simp only [List.mem_cons, List.not_mem_nil, or_false, gz]); omega) | rfl)) only [↓gsd, gs, ev, Nat.reduceAdd, Nat.reduceEqDiff, oneC, Value.cells, Option.isNone, gt, ↓hk11, e0, e1, e5, e6, e7, e8, e9, e10, k8', i0', i1', Int.toNat_zero, Nat.zero_mul, Nat.add_zero, kw', hd1]
              refine atI hc9' ?_
              have q1 : decide (gc.at_ < y) = false := decide_eq_false (by omega)
              have q2 : decide ((g.ws.length : Int) ≤ (gc.ws.length : Int)) = false := decide_eq_false (by omega)
              have q3 : decide (g.at_ = g.at_ + 1 - 1) = true := decide_eq_true (by omega)
              simp (maxSteps := 4000000) (disch := (first | assumption | exact List.not_mem_nil | ((repeat (first | assumption | apply cur_alloc | apply cur_setB | apply cur_drew | apply cur_drewN)); done) | omega | (simp only [gz, Value.cells, oneC]; first | done | omega) | ((simp only [List.mem_cons, List.not_mem_nil, or_false, gz]); omega) | rfl)) only [↓gsd, gs, ev, Nat.reduceAdd, Nat.reduceEqDiff, oneC, Value.cells, Option.isNone, gt, ↓hk11, e0, e1, e5, e6, e7, e8, e9, e10, k8', q1]
              refine ⟨Fr.refl _ _, waitsI hc9' hcwf fun vx w10 hw10 hf10 _ => ⟨hf10, ?_⟩⟩
              have cw10 := cur w10
              have hz10 := hf10.size
              obtain ⟨xa, xc, hvx⟩ := hw10.sl.form
              have hf7A : Fr [] w7 w10 := ((hfin' w9 hf9).trans' (Fr.refl _ _).drew).trans' hf10
              simp (maxSteps := 4000000) (disch := (first | assumption | exact List.not_mem_nil | ((repeat (first | assumption | apply cur_alloc | apply cur_setB | apply cur_drew | apply cur_drewN)); done) | omega | (simp only [gz, Value.cells, oneC]; first | done | omega) | ((simp only [List.mem_cons, List.not_mem_nil, or_false, gz]); omega) | rfl)) only [↓gsd, gs, ev, Nat.reduceAdd, Nat.reduceEqDiff, oneC, Value.cells, Option.isNone, gt, ↓hk11, e0, e1, e5, e6, e7, e8, e9, e10, k8', hvx, q2]
              refine atI (hg7.frN hf7A) ?_
              simp (maxSteps := 4000000) (disch := (first | assumption | exact List.not_mem_nil | ((repeat (first | assumption | apply cur_alloc | apply cur_setB | apply cur_drew | apply cur_drewN)); done) | omega | (simp only [gz, Value.cells, oneC]; first | done | omega) | ((simp only [List.mem_cons, List.not_mem_nil, or_false, gz]); omega) | rfl)) only [↓gsd, gs, ev, Nat.reduceAdd, Nat.reduceEqDiff, oneC, Value.cells, Option.isNone, gt, ↓hk11, e0, e1, e5, e6, e7, e8, e9, e10, k8', q3]
              refine ⟨hf10, hkk _ _ (by simp (maxSteps := 4000000) (disch := (first | assumption | exact List.not_mem_nil | ((repeat (first | assumption | apply cur_alloc | apply cur_setB | apply cur_drew | apply cur_drewN)); done) | omega | (simp only [gz, Value.cells, oneC]; first | done | omega) | ((simp only [List.mem_cons, List.not_mem_nil, or_false, gz]); omega) | rfl)) only [↓gsd, gs, ev, Nat.reduceAdd, Nat.reduceEqDiff, oneC, Value.cells, Option.isNone, e0]) (by simp (maxSteps := 4000000) (disch := (first | assumption | exact List.not_mem_nil | ((repeat (first | assumption | apply cur_alloc | apply cur_setB | apply cur_drew | apply cur_drewN)); done) | omega | (simp only [gz, Value.cells, oneC]; first | done | omega) | ((simp only [List.mem_cons, List.not_mem_nil, or_false, gz]); omega) | rfl)) only [↓gsd, gs, ev, Nat.reduceAdd, Nat.reduceEqDiff, oneC, Value.cells, Option.isNone, e1]) (by simp (maxSteps := 4000000) (disch := (first | assumption | exact List.not_mem_nil | ((repeat (first | assumption | apply cur_alloc | apply cur_setB | apply cur_drew | apply cur_drewN)); done) | omega | (simp only [gz, Value.cells, oneC]; first | done | omega) | ((simp only [List.mem_cons, List.not_mem_nil, or_false, gz]); omega) | rfl)) only [↓gsd, gs, ev, Nat.reduceAdd, Nat.reduceEqDiff, oneC, Value.cells, Option.isNone, e5]) (by simp (maxSteps := 4000000) (disch := (first | assumption | exact List.not_mem_nil | ((repeat (first | assumption | apply cur_alloc | apply cur_setB | apply cur_drew | apply cur_drewN)); done) | omega | (simp only [gz, Value.cells, oneC]; first | done | omega) | ((simp only [List.mem_cons, List.not_mem_nil, or_false, gz]); omega) | rfl)) only [↓gsd, gs, ev, Nat.reduceAdd, Nat.reduceEqDiff, oneC, Value.cells, Option.isNone, e6]) hf7A⟩
    · have el : decide ((i : Int) < (ps.length : Int)) = false := decide_eq_false (by omega)
      simp (maxSteps := 4000000) (disch := (first | assumption | exact List.not_mem_nil | ((repeat (first | assumption | apply cur_alloc | apply cur_setB | apply cur_drew | apply cur_drewN)); done) | omega | (simp only [gz, Value.cells, oneC]; first | done | omega) | ((simp only [List.mem_cons, List.not_mem_nil, or_false, gz]); omega) | rfl)) only [↓gsd, gs, ev, Nat.reduceAdd, Nat.reduceEqDiff, oneC, Value.cells, Option.isNone, gt, ↓hk11, e0, e1, e5, e6, hpv, el]
      exact hK _ (hfin _ hf)
end Go.Proofs.Ytenokheiindfkaa
