/- StreamFirst walked, to its end. -/
import Derived.Test.YtenokheiindfkabD8
set_option linter.unusedVariables false
set_option linter.unusedSimpArgs false
set_option maxRecDepth 10000
namespace Go.Proofs.Ytenokheiindfkab
open Go.VW
/-- The log and the numbers that are wanted, apart. -/
structure StF (w0 w : World) (lb : Nat) (L : List Ks) (vw : Value) (want : List Int) : Prop where
  ex : ∃ Wr Rd, LogAt w lb Wr Rd L ∧ (∀ x ∈ Wr, w0.heap.size ≤ x) ∧ ∀ b, vw.ownBlock = some b → b ∉ Wr ∧ b ∉ Rd
  nums : NumsAt w0 w vw want
  fr : Fr [] w0 w
theorem StF.app {w0 w w1 : World} {lb : Nat} {L : List Ks} {vw : Value} {want : List Int} (h : StF w0 w lb L vw want) (n : Int) (hl : want.length ≤ 2199023255552) (hf : Fr [] w w1) {a : Addr} (hx : Sl 1 w1 (.slice (some a) 1 1) 1 [.int .i64 n]) :
    ∃ v' w', (Builtin.append_ #[26, 26] 26 #[vw, .slice (some a) 1 1]).run Try.prog w1 = .ok v' w' ∧ StF w0 w' lb L v' (want ++ [n]) := by
  obtain ⟨⟨Wr, Rd, h1, h2, h3⟩, hn, hfr⟩ := h
  have hz := hf.size
  have hz0 := hfr.size
  obtain ⟨v', w', hr, hn', hf', hbk⟩ := (hn.frN hf).app (by omega) n hl hx
  have hlg := h1.frN hf
  refine ⟨v', w', hr, ⟨⟨Wr, Rd, hlg.fr hf' fun x hx => h3 x (mem_blkL.1 hx), h2, fun b hb => ?_⟩, hn', ?_⟩⟩
  · rcases hbk with e | ⟨b', e1, e2⟩
    · exact h3 b (e ▸ hb)
    · rw [e1] at hb; cases hb
      exact ⟨fun hm => by have := h1.lt _ (.inl hm); omega, fun hm => by have := h1.lt _ (.inr hm); omega⟩
  · exact (hfr.trans' hf).trans hf' fun x hx => .inr (hn.fresh x (mem_blkL.1 hx))
open Classical in
set_option maxHeartbeats 16000000 in
theorem first_law {w : World} {lv : Value} {vs : List Value} {kss : List Ks} {s : ByteArray} {K : Value → World → Prop} (h : ListS w lv vs kss) (hl : kss.length ≤ maxLen)
    (hK : ∀ w', Fr [] w w' → K (.bool true) w') : CallsN Try.prog 3 [lv, .string s] w K := by
  have cw := cur w
  have hvl := h.len
  unfold maxLen at hl
  obtain ⟨la, lc, hlv⟩ := h.sl.form
  refine call3 ?_
  simp (maxSteps := 4000000) (disch := (first | assumption | exact List.not_mem_nil | exact Fr.refl _ _ | ((repeat (first | assumption | apply cur_alloc | apply cur_setB | apply cur_drew | apply cur_drewN)); done) | omega | (simp only [gz, Value.cells, oneC]; first | done | omega) | ((simp only [List.mem_cons, List.not_mem_nil, or_false, gz]); omega) | rfl)) only [↓gsd, gs, ev, Nat.reduceAdd, Nat.reduceEqDiff, oneC, Value.cells, Option.isNone, gt, ↓hk3]
  refine fixed_spec fun w1 hf1 => ?_
  have cw1 := cur w1
  simp (maxSteps := 4000000) (disch := (first | assumption | exact List.not_mem_nil | exact Fr.refl _ _ | ((repeat (first | assumption | apply cur_alloc | apply cur_setB | apply cur_drew | apply cur_drewN)); done) | omega | (simp only [gz, Value.cells, oneC]; first | done | omega) | ((simp only [List.mem_cons, List.not_mem_nil, or_false, gz]); omega) | rfl)) only [↓gsd, gs, ev, Nat.reduceAdd, Nat.reduceEqDiff, oneC, Value.cells, Option.isNone, gt, ↓hk3]
  refine new_log fun lb w2 hf2 hlb h2 => ?_
  have cw2 := cur w2
  have hz1 := hf1.size
  have hz2 := hf2.size
  simp (maxSteps := 4000000) (disch := (first | assumption | exact List.not_mem_nil | exact Fr.refl _ _ | ((repeat (first | assumption | apply cur_alloc | apply cur_setB | apply cur_drew | apply cur_drewN)); done) | omega | (simp only [gz, Value.cells, oneC]; first | done | omega) | ((simp only [List.mem_cons, List.not_mem_nil, or_false, gz]); omega) | rfl)) only [↓gsd, gs, ev, Nat.reduceAdd, Nat.reduceEqDiff, oneC, Value.cells, Option.isNone, gt, ↓hk3]
  refine loop_intro (fun e w' => ∃ (i : Nat) (L : List Ks) (vw : Value) (want : List Int), i ≤ vs.length ∧ e 0 = lv ∧ e 1 = .string s ∧ e 5 = .pointer (some ⟨lb, 0, none⟩) ∧ e 6 = vw ∧ e 7 = .int .i64 i ∧ StF w w' lb L vw want ∧ WantP L s want)
    (fun e _ => vs.length - (numOf (e 7)).toNat) ?_ ?_
  · refine ⟨0, [], .slice none 0 0, [], Nat.zero_le _, ?_⟩
    simp (maxSteps := 4000000) (disch := (first | assumption | exact List.not_mem_nil | exact Fr.refl _ _ | ((repeat (first | assumption | apply cur_alloc | apply cur_setB | apply cur_drew | apply cur_drewN)); done) | omega | (simp only [gz, Value.cells, oneC]; first | done | omega) | ((simp only [List.mem_cons, List.not_mem_nil, or_false, gz]); omega) | rfl)) only [↓gsd, gs, ev, Nat.reduceAdd, Nat.reduceEqDiff, oneC, Value.cells, Option.isNone, Int.natCast_zero]
    exact ⟨⟨⟨_, _, h2, fun x hx => by simp at hx; omega, fun b hb => by simp [Value.ownBlock] at hb⟩, ⟨Own.nil, fun b hb => by simp [Value.ownBlock] at hb⟩, hf1.trans' hf2⟩, WantP.nil s⟩
  rintro e w3 k ⟨i, L, vw, want, hi, e0, e1, e5, e6, e7, hst, hwant⟩ hk
  have cw3 := cur w3
  by_cases hil : i < vs.length
  · have d : decide ((i : Int) < (vs.length : Int)) = true := decide_eq_true (by omega)
    have i0 : (0 : Int) ≤ (i : Int) := by omega
    have i1 : (i : Int) < (vs.length : Int) := by omega
    obtain ⟨x, hx⟩ : ∃ x, vs[i]? = some x := ⟨vs[i], List.getElem?_eq_getElem hil⟩
    obtain ⟨ks, hks⟩ : ∃ ks, kss[i]? = some ks := ⟨kss[i]'(by omega), List.getElem?_eq_getElem (by omega)⟩
    obtain ⟨hsx, hm⟩ := h.at_ i x ks hx hks
    unfold maxLen at hm
    obtain ⟨⟨Wr, Rd, h3, hW, hdis⟩, hn, hfr⟩ := hst
    obtain ⟨b, off, cap, o, hvb, hob, hbl, _, hcell⟩ := (h.sl.frN hfr).read one1_len i x hx
    have hc0 := fun orig K => hcell 0 x orig K rfl
    simp only [Nat.add_zero, Nat.mul_one] at hc0
    obtain ⟨xa, xc, hxf⟩ := hsx.form
    have E7 := e7
    simp (maxSteps := 4000000) (disch := (first | assumption | exact List.not_mem_nil | exact Fr.refl _ _ | ((repeat (first | assumption | apply cur_alloc | apply cur_setB | apply cur_drew | apply cur_drewN)); done) | omega | (simp only [gz, Value.cells, oneC]; first | done | omega) | ((simp only [List.mem_cons, List.not_mem_nil, or_false, gz]); omega) | rfl)) only [↓gsd, gs, ev, Nat.reduceAdd, Nat.reduceEqDiff, oneC, Value.cells, Option.isNone, gt, ↓hk3, e0, e1, e5, e6, e7, d, hvb, i0, i1, Int.toNat_natCast, Nat.mul_one, hob, hc0]
    refine append_log h3 (hsx.frN hfr) (by omega) fun w4 Wr' Rd' h4 hf4 hW' hRd' => ?_
    have cw4 := cur w4
    have hz4 := hf4.size
    have hz3 := hfr.size
    have hF4 : Fr [] w w4 := hfr.trans hf4 fun x hx => .inr (hW x hx)
    have hn4 : NumsAt w w4 vw want := hn.fr hf4 fun b hb => (hdis b hb).1
    have hst4 : StF w w4 lb (appL L ks).2 vw want := ⟨⟨Wr', Rd', h4, fun x hx => by
      have hz3 := hfr.size
      rcases hW' x hx with q | q
      · exact hW x q
      · omega, fun b hb => by
      have hlt := hn.own.lt hb
      obtain ⟨q1, q2⟩ := hdis b hb
      exact ⟨fun hm => by rcases hW' b hm with q | q; exact q1 q; omega, fun hm => by rcases hRd' b hm with q | q; exact q2 q; omega⟩⟩, hn4, hF4⟩
    have e3 : ((i : Int) + 1).toNat = i + 1 := by omega
    rcases appL_cases L ks with ⟨q1, q2, q3⟩ | ⟨q1, q2, q3, q4, q5⟩
    · have dq : decide ((appL L ks).1.2 = 0) = false := decide_eq_false q1
      rw [q2] at hst4
      simp (maxSteps := 4000000) (disch := (first | assumption | exact List.not_mem_nil | exact Fr.refl _ _ | ((repeat (first | assumption | apply cur_alloc | apply cur_setB | apply cur_drew | apply cur_drewN)); done) | omega | (simp only [gz, Value.cells, oneC]; first | done | omega) | ((simp only [List.mem_cons, List.not_mem_nil, or_false, gz]); omega) | rfl)) only [↓gsd, gs, ev, Nat.reduceAdd, Nat.reduceEqDiff, oneC, Value.cells, Option.isNone, gt, ↓hk3, e0, e1, e5, e6, e7, dq]
      refine hk _ _ ⟨i + 1, L, vw, want, by omega, ?_⟩ ?_
      · simp (maxSteps := 4000000) (disch := (first | assumption | exact List.not_mem_nil | exact Fr.refl _ _ | ((repeat (first | assumption | apply cur_alloc | apply cur_setB | apply cur_drew | apply cur_drewN)); done) | omega | (simp only [gz, Value.cells, oneC]; first | done | omega) | ((simp only [List.mem_cons, List.not_mem_nil, or_false, gz]); omega) | rfl)) only [↓gsd, gs, ev, Nat.reduceAdd, Nat.reduceEqDiff, oneC, Value.cells, Option.isNone, e0, e1, e5, e6, e7, hvb, Int.natCast_add, Int.natCast_one]
        exact ⟨hst4, hwant⟩
      · simp (maxSteps := 4000000) (disch := (first | assumption | exact List.not_mem_nil | exact Fr.refl _ _ | ((repeat (first | assumption | apply cur_alloc | apply cur_setB | apply cur_drew | apply cur_drewN)); done) | omega | (simp only [gz, Value.cells, oneC]; first | done | omega) | ((simp only [List.mem_cons, List.not_mem_nil, or_false, gz]); omega) | rfl)) only [↓gsd, gs, ev, Nat.reduceAdd, Nat.reduceEqDiff, oneC, Value.cells, Option.isNone, e7, numOf, Int.toNat_natCast, e3]; omega
    · obtain ⟨g1, g2, g3⟩ := chkK_ok q2
      have dq : decide ((appL L ks).1.2 = 0) = true := decide_eq_true q1
      rw [q5] at hst4
      rw [q4]
      rw [q1]
      simp (maxSteps := 4000000) (disch := (first | assumption | exact List.not_mem_nil | exact Fr.refl _ _ | ((repeat (first | assumption | apply cur_alloc | apply cur_setB | apply cur_drew | apply cur_drewN)); done) | omega | (simp only [gz, Value.cells, oneC]; first | done | omega) | ((simp only [List.mem_cons, List.not_mem_nil, or_false, gz]); omega) | rfl)) only [↓gsd, gs, ev, Nat.reduceAdd, Nat.reduceEqDiff, oneC, Value.cells, Option.isNone, gt, ↓hk3, e0, e1, e5, e6, e7]
      refine loop_intro (fun e w' => ∃ (j : Nat) (vw' : Value), j ≤ ks.length ∧ e 0 = lv ∧ e 1 = .string s ∧ e 5 = .pointer (some ⟨lb, 0, none⟩) ∧ e 6 = vw' ∧ e 7 = .int .i64 i ∧ e 8 = .int .i64 ((L.length : Int) + 1) ∧ e 10 = .int .i64 j ∧
          StF w w' lb (L ++ [ks]) vw' (want ++ if s ∈ ks.take j then [(L.length : Int) + 1] else [])) (fun e _ => ks.length - (numOf (e 10)).toNat) ?_ ?_
      · refine ⟨0, vw, Nat.zero_le _, ?_⟩
        simp (maxSteps := 4000000) (disch := (first | assumption | exact List.not_mem_nil | exact Fr.refl _ _ | ((repeat (first | assumption | apply cur_alloc | apply cur_setB | apply cur_drew | apply cur_drewN)); done) | omega | (simp only [gz, Value.cells, oneC]; first | done | omega) | ((simp only [List.mem_cons, List.not_mem_nil, or_false, gz]); omega) | rfl)) only [↓gsd, gs, ev, Nat.reduceAdd, Nat.reduceEqDiff, oneC, Value.cells, Option.isNone, e0, e1, e5, e6, e7, hvb, Int.natCast_zero]
        simpa using hst4
      rintro e w5 k' ⟨j, vw', hj, e0, e1, e5, e6, e7, e8, e10, hst5⟩ hk'
      have cw5 := cur w5
      obtain ⟨b', off', cap', o', hvb', hob', hbl', _, hcell'⟩ := (h.sl.frN hst5.fr).read one1_len i x hx
      have hc0' := fun orig K => hcell' 0 x orig K rfl
      simp only [Nat.add_zero, Nat.mul_one] at hc0'
      by_cases hjl : j < ks.length
      · have dj : decide ((j : Int) < (ks.length : Int)) = true := decide_eq_true (by omega)
        have j0 : (0 : Int) ≤ (j : Int) := by omega
        have j1 : (j : Int) < (ks.length : Int) := by omega
        have j3 : ((j : Int) + 1).toNat = j + 1 := by omega
        obtain ⟨y, hy⟩ : ∃ y, ks[j]? = some y := ⟨ks[j], List.getElem?_eq_getElem hjl⟩
        obtain ⟨b2, off2, cap2, o2, hvb2, hob2, hbl2, _, hcell2⟩ := (hsx.frN hst5.fr).read encS_len j y hy
        have hc2 := fun orig K => hcell2 0 (.string y) orig K rfl
        simp only [Nat.add_zero, Nat.mul_one] at hc2
        by_cases hys : y = s
        · have dy : decide (y = s) = true := decide_eq_true hys
          simp (maxSteps := 4000000) (disch := (first | assumption | exact List.not_mem_nil | exact Fr.refl _ _ | ((repeat (first | assumption | apply cur_alloc | apply cur_setB | apply cur_drew | apply cur_drewN)); done) | omega | (simp only [gz, Value.cells, oneC]; first | done | omega) | ((simp only [List.mem_cons, List.not_mem_nil, or_false, gz]); omega) | rfl)) only [↓gsd, gs, ev, Nat.reduceAdd, Nat.reduceEqDiff, oneC, Value.cells, Option.isNone, gt, ↓hk3, e0, e1, e5, e6, e7, e8, e10, dj, hvb', i0, i1, j0, j1, Int.toNat_natCast, Nat.mul_one, hob', hc0', hvb2, hob2, hc2, dy]
          generalize hW2 : World.alloc w5 _ = w6
          have hf6 : Fr [] w5 w6 := by rw [← hW2]; (repeat (first | exact Fr.refl _ _ | assumption | with_reducible apply Fr.alloc | with_reducible apply Fr.drew | with_reducible refine Fr.setB ?_ _ _ (.inr (by first | omega | (simp only [gz]; omega))) | with_reducible refine Fr.setB ?_ _ _ (.inl (by first | assumption | simp)) | with_reducible refine Fr.trans' ?_ (by assumption)))
          have hsl : Sl 1 w6 (.slice (some ⟨w5.heap.size, 0, none⟩) 1 1) 1 [.int .i64 ((L.length : Int) + 1)] := by rw [← hW2]; exact sl_int _
          clear hW2
          have cw6 := cur w6
          have hwl := hwant.len
          obtain ⟨v7, w7, hr7, hst7⟩ := hst5.app ((L.length : Int) + 1) (by simp; split <;> simp <;> omega) hf6 hsl
          have cw7 := cur w7
          simp (maxSteps := 4000000) (disch := (first | assumption | exact List.not_mem_nil | exact Fr.refl _ _ | ((repeat (first | assumption | apply cur_alloc | apply cur_setB | apply cur_drew | apply cur_drewN)); done) | omega | (simp only [gz, Value.cells, oneC]; first | done | omega) | ((simp only [List.mem_cons, List.not_mem_nil, or_false, gz]); omega) | rfl)) only [↓gsd, gs, ev, Nat.reduceAdd, Nat.reduceEqDiff, oneC, Value.cells, Option.isNone, gt, ↓hk3, e0, e1, e5, e6, e7, e8, e10, hr7]
          refine hk' _ _ ⟨j + 1, v7, by omega, ?_⟩ ?_
          · simp (maxSteps := 4000000) (disch := (first | assumption | exact List.not_mem_nil | exact Fr.refl _ _ | ((repeat (first | assumption | apply cur_alloc | apply cur_setB | apply cur_drew | apply cur_drewN)); done) | omega | (simp only [gz, Value.cells, oneC]; first | done | omega) | ((simp only [List.mem_cons, List.not_mem_nil, or_false, gz]); omega) | rfl)) only [↓gsd, gs, ev, Nat.reduceAdd, Nat.reduceEqDiff, oneC, Value.cells, Option.isNone, e0, e1, e5, e6, e7, e8, e10, hvb, Int.natCast_add, Int.natCast_one]
            rw [take_mem_step g3 hy, if_pos hys, ← List.append_assoc]
            exact hst7
          · simp (maxSteps := 4000000) (disch := (first | assumption | exact List.not_mem_nil | exact Fr.refl _ _ | ((repeat (first | assumption | apply cur_alloc | apply cur_setB | apply cur_drew | apply cur_drewN)); done) | omega | (simp only [gz, Value.cells, oneC]; first | done | omega) | ((simp only [List.mem_cons, List.not_mem_nil, or_false, gz]); omega) | rfl)) only [↓gsd, gs, ev, Nat.reduceAdd, Nat.reduceEqDiff, oneC, Value.cells, Option.isNone, e10, numOf, Int.toNat_natCast, j3]; omega
        · have dy : decide (y = s) = false := decide_eq_false hys
          simp (maxSteps := 4000000) (disch := (first | assumption | exact List.not_mem_nil | exact Fr.refl _ _ | ((repeat (first | assumption | apply cur_alloc | apply cur_setB | apply cur_drew | apply cur_drewN)); done) | omega | (simp only [gz, Value.cells, oneC]; first | done | omega) | ((simp only [List.mem_cons, List.not_mem_nil, or_false, gz]); omega) | rfl)) only [↓gsd, gs, ev, Nat.reduceAdd, Nat.reduceEqDiff, oneC, Value.cells, Option.isNone, gt, ↓hk3, e0, e1, e5, e6, e7, e8, e10, dj, hvb', i0, i1, j0, j1, Int.toNat_natCast, Nat.mul_one, hob', hc0', hvb2, hob2, hc2, dy]
          refine hk' _ _ ⟨j + 1, vw', by omega, ?_⟩ ?_
          · simp (maxSteps := 4000000) (disch := (first | assumption | exact List.not_mem_nil | exact Fr.refl _ _ | ((repeat (first | assumption | apply cur_alloc | apply cur_setB | apply cur_drew | apply cur_drewN)); done) | omega | (simp only [gz, Value.cells, oneC]; first | done | omega) | ((simp only [List.mem_cons, List.not_mem_nil, or_false, gz]); omega) | rfl)) only [↓gsd, gs, ev, Nat.reduceAdd, Nat.reduceEqDiff, oneC, Value.cells, Option.isNone, e0, e1, e5, e6, e7, e8, e10, hvb', hvb, Int.natCast_add, Int.natCast_one]
            rw [take_mem_step g3 hy, if_neg hys, List.append_nil]
            exact hst5
          · simp (maxSteps := 4000000) (disch := (first | assumption | exact List.not_mem_nil | exact Fr.refl _ _ | ((repeat (first | assumption | apply cur_alloc | apply cur_setB | apply cur_drew | apply cur_drewN)); done) | omega | (simp only [gz, Value.cells, oneC]; first | done | omega) | ((simp only [List.mem_cons, List.not_mem_nil, or_false, gz]); omega) | rfl)) only [↓gsd, gs, ev, Nat.reduceAdd, Nat.reduceEqDiff, oneC, Value.cells, Option.isNone, e10, numOf, Int.toNat_natCast, j3]; omega
      · have dj : decide ((j : Int) < (ks.length : Int)) = false := decide_eq_false (by omega)
        simp (maxSteps := 4000000) (disch := (first | assumption | exact List.not_mem_nil | exact Fr.refl _ _ | ((repeat (first | assumption | apply cur_alloc | apply cur_setB | apply cur_drew | apply cur_drewN)); done) | omega | (simp only [gz, Value.cells, oneC]; first | done | omega) | ((simp only [List.mem_cons, List.not_mem_nil, or_false, gz]); omega) | rfl)) only [↓gsd, gs, ev, Nat.reduceAdd, Nat.reduceEqDiff, oneC, Value.cells, Option.isNone, gt, ↓hk3, e0, e1, e5, e6, e7, e8, e10, hvb', i0, i1, Int.toNat_natCast, Nat.mul_one, hob', hc0', hxf, dj]
        refine hk _ _ ⟨i + 1, L ++ [ks], vw', want ++ (if s ∈ ks then [(L.length : Int) + 1] else []), by omega, ?_⟩ ?_
        · simp (maxSteps := 4000000) (disch := (first | assumption | exact List.not_mem_nil | exact Fr.refl _ _ | ((repeat (first | assumption | apply cur_alloc | apply cur_setB | apply cur_drew | apply cur_drewN)); done) | omega | (simp only [gz, Value.cells, oneC]; first | done | omega) | ((simp only [List.mem_cons, List.not_mem_nil, or_false, gz]); omega) | rfl)) only [↓gsd, gs, ev, Nat.reduceAdd, Nat.reduceEqDiff, oneC, Value.cells, Option.isNone, e0, e1, e5, e6, e7, e8, e10, hvb', hvb, Int.natCast_add, Int.natCast_one]
          rw [List.take_of_length_le (by omega)] at hst5
          exact ⟨hst5, hwant.app ks⟩
        · simp (maxSteps := 4000000) (disch := (first | assumption | exact List.not_mem_nil | exact Fr.refl _ _ | ((repeat (first | assumption | apply cur_alloc | apply cur_setB | apply cur_drew | apply cur_drewN)); done) | omega | (simp only [gz, Value.cells, oneC]; first | done | omega) | ((simp only [List.mem_cons, List.not_mem_nil, or_false, gz]); omega) | rfl)) only [↓gsd, gs, ev, Nat.reduceAdd, Nat.reduceEqDiff, oneC, Value.cells, Option.isNone, E7, e7, numOf, Int.toNat_natCast, e3]; omega
  · have d : decide ((i : Int) < (vs.length : Int)) = false := decide_eq_false (by omega)
    obtain ⟨⟨Wr, Rd, h3, hW, hdis⟩, hn, hfr⟩ := hst
    have hLl := h3.len
    have hwl := hwant.len
    simp (maxSteps := 4000000) (disch := (first | assumption | exact List.not_mem_nil | exact Fr.refl _ _ | ((repeat (first | assumption | apply cur_alloc | apply cur_setB | apply cur_drew | apply cur_drewN)); done) | omega | (simp only [gz, Value.cells, oneC]; first | done | omega) | ((simp only [List.mem_cons, List.not_mem_nil, or_false, gz]); omega) | rfl)) only [↓gsd, gs, ev, Nat.reduceAdd, Nat.reduceEqDiff, oneC, Value.cells, Option.isNone, gt, ↓hk3, e0, e1, e5, e6, e7, hlv, d]
    refine loop_intro (fun e w' => ∃ (j : Nat) (a : Int), j ≤ want.length ∧ e 1 = .string s ∧ e 5 = .pointer (some ⟨lb, 0, none⟩) ∧ e 6 = vw ∧ e 11 = .int .i64 a ∧ e 12 = .int .i64 j ∧ (if j = 0 then a = -7 else want[j - 1]? = some a) ∧ Fr [] w3 w')
      (fun e _ => want.length - (numOf (e 12)).toNat) ?_ ?_
    · refine ⟨0, -7, Nat.zero_le _, ?_⟩
      simp (maxSteps := 4000000) (disch := (first | assumption | exact List.not_mem_nil | exact Fr.refl _ _ | ((repeat (first | assumption | apply cur_alloc | apply cur_setB | apply cur_drew | apply cur_drewN)); done) | omega | (simp only [gz, Value.cells, oneC]; first | done | omega) | ((simp only [List.mem_cons, List.not_mem_nil, or_false, gz]); omega) | rfl)) only [↓gsd, gs, ev, Nat.reduceAdd, Nat.reduceEqDiff, oneC, Value.cells, Option.isNone, e1, e5, e6, Int.natCast_zero]
      exact Fr.refl _ _
    rintro e w5 k' ⟨j, a, hj, e1, e5, e6, e11, e12, ha, hf5⟩ hk'
    have cw5 := cur w5
    have hz5 := hf5.size
    obtain ⟨wa, wc, hwf⟩ := hn.own.sl.form
    have hfst := hwant.first j hj ha
    have h5 := h3.frN hf5
    by_cases hjl : j < want.length
    · have dj : decide ((j : Int) < (want.length : Int)) = true := decide_eq_true (by omega)
      have j0 : (0 : Int) ≤ (j : Int) := by omega
      have j1 : (j : Int) < (want.length : Int) := by omega
      have j3 : ((j : Int) + 1).toNat = j + 1 := by omega
      obtain ⟨n, hnj⟩ : ∃ n, want[j]? = some n := ⟨want[j], List.getElem?_eq_getElem hjl⟩
      rw [hnj] at hfst
      simp (maxSteps := 4000000) (disch := (first | assumption | exact List.not_mem_nil | exact Fr.refl _ _ | ((repeat (first | assumption | apply cur_alloc | apply cur_setB | apply cur_drew | apply cur_drewN)); done) | omega | (simp only [gz, Value.cells, oneC]; first | done | omega) | ((simp only [List.mem_cons, List.not_mem_nil, or_false, gz]); omega) | rfl)) only [↓gsd, gs, ev, Nat.reduceAdd, Nat.reduceEqDiff, oneC, Value.cells, Option.isNone, gt, ↓hk3, e1, e5, e6, e11, e12, hwf, dj]
      refine first_log h5 fun r w6 hr hf6 => ?_
      have cw6 := cur w6
      have hz6 := hf6.size
      rw [FirstP.uniq hr hfst]
      unfold firstV
      obtain ⟨b2, off2, cap2, o2, hvb2, hob2, hbl2, _, hcell2⟩ := (show SlOf 1 encI w6 vw want from (hn.own.sl.frN hf5).frN hf6).read encI_len j n hnj
      have hc2 := fun orig K => hcell2 0 (.int .i64 n) orig K rfl
      simp only [Nat.add_zero, Nat.mul_one] at hc2
      have dn : decide (n = n) = true := decide_eq_true rfl
      rw [hwf] at hvb2
      simp (maxSteps := 4000000) (disch := (first | assumption | exact List.not_mem_nil | exact Fr.refl _ _ | ((repeat (first | assumption | apply cur_alloc | apply cur_setB | apply cur_drew | apply cur_drewN)); done) | omega | (simp only [gz, Value.cells, oneC]; first | done | omega) | ((simp only [List.mem_cons, List.not_mem_nil, or_false, gz]); omega) | rfl)) only [↓gsd, gs, ev, Nat.reduceAdd, Nat.reduceEqDiff, oneC, Value.cells, Option.isNone, gt, ↓hk3, e1, e5, e6, e11, e12, hwf, hvb2, j0, j1, Int.toNat_natCast, Nat.mul_one, hob2, hc2, dn]
      refine hk' _ _ ⟨j + 1, n, by omega, ?_⟩ ?_
      · simp (maxSteps := 4000000) (disch := (first | assumption | exact List.not_mem_nil | exact Fr.refl _ _ | ((repeat (first | assumption | apply cur_alloc | apply cur_setB | apply cur_drew | apply cur_drewN)); done) | omega | (simp only [gz, Value.cells, oneC]; first | done | omega) | ((simp only [List.mem_cons, List.not_mem_nil, or_false, gz]); omega) | rfl)) only [↓gsd, gs, ev, Nat.reduceAdd, Nat.reduceEqDiff, oneC, Value.cells, Option.isNone, e1, e5, e6, e11, e12, hwf, hvb2, Int.natCast_add, Int.natCast_one]
        refine ⟨?_, hf5.trans' hf6⟩
        exact hnj
      · simp (maxSteps := 4000000) (disch := (first | assumption | exact List.not_mem_nil | exact Fr.refl _ _ | ((repeat (first | assumption | apply cur_alloc | apply cur_setB | apply cur_drew | apply cur_drewN)); done) | omega | (simp only [gz, Value.cells, oneC]; first | done | omega) | ((simp only [List.mem_cons, List.not_mem_nil, or_false, gz]); omega) | rfl)) only [↓gsd, gs, ev, Nat.reduceAdd, Nat.reduceEqDiff, oneC, Value.cells, Option.isNone, e12, numOf, Int.toNat_natCast, j3]; omega
    · have dj : decide ((j : Int) < (want.length : Int)) = false := decide_eq_false (by omega)
      rw [List.getElem?_eq_none (by omega)] at hfst
      simp (maxSteps := 4000000) (disch := (first | assumption | exact List.not_mem_nil | exact Fr.refl _ _ | ((repeat (first | assumption | apply cur_alloc | apply cur_setB | apply cur_drew | apply cur_drewN)); done) | omega | (simp only [gz, Value.cells, oneC]; first | done | omega) | ((simp only [List.mem_cons, List.not_mem_nil, or_false, gz]); omega) | rfl)) only [↓gsd, gs, ev, Nat.reduceAdd, Nat.reduceEqDiff, oneC, Value.cells, Option.isNone, gt, ↓hk3, e1, e5, e6, e11, e12, hwf, dj]
      refine first_log h5 fun r w6 hr hf6 => ?_
      have cw6 := cur w6
      rw [FirstP.uniq hr hfst]
      unfold firstV
      simp (maxSteps := 4000000) (disch := (first | assumption | exact List.not_mem_nil | exact Fr.refl _ _ | ((repeat (first | assumption | apply cur_alloc | apply cur_setB | apply cur_drew | apply cur_drewN)); done) | omega | (simp only [gz, Value.cells, oneC]; first | done | omega) | ((simp only [List.mem_cons, List.not_mem_nil, or_false, gz]); omega) | rfl)) only [↓gsd, gs, ev, Nat.reduceAdd, Nat.reduceEqDiff, oneC, Value.cells, Option.isNone, gt, ↓hk3, e1, e5, e6, e11, e12]
      exact hK _ ((hfr.trans' hf5).trans' hf6)
end Go.Proofs.Ytenokheiindfkab
