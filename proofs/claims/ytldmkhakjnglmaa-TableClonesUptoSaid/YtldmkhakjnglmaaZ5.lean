/- The reference's table: Put. -/
import Derived.Test.YtldmkhakjnglmaaZ4
set_option linter.unusedVariables false
set_option linter.unusedSimpArgs false
set_option maxRecDepth 10000
namespace Go.Proofs.Ytldmkhakjnglmaa
open Go.VW
def splitL (L : Ents) (e : Ent) : Ents := (L.filter fun a => aheadB a e.key e.lo) ++ [e] ++ L.filter fun a => !aheadB a e.key e.lo
def rputL (L : Ents) (e : Ent) : Ents := if goodE e = true then splitL (L.filter (keepE e.key e.lo)) e else L
theorem fresh_of {w w1 : World} {v v' : Value} (hv : ∀ b, v.ownBlock = some b → w.heap.size ≤ b) (hs : w.heap.size ≤ w1.heap.size) (hb : v'.ownBlock = v.ownBlock ∨ ∃ b, v'.ownBlock = some b ∧ w1.heap.size ≤ b) : ∀ b, v'.ownBlock = some b → w.heap.size ≤ b := fun b h => by
  rcases hb with q | ⟨b', q1, q2⟩
  · exact hv b (q ▸ h)
  · rw [q1] at h; cases h; omega
theorem apart_of {w1 : World} {v v' u : Value} (ha : ∀ b, v.ownBlock = some b → u.ownBlock ≠ some b) (hu : ∀ b, u.ownBlock = some b → b < w1.heap.size) (hb : v'.ownBlock = v.ownBlock ∨ ∃ b, v'.ownBlock = some b ∧ w1.heap.size ≤ b) : ∀ b, v'.ownBlock = some b → u.ownBlock ≠ some b := fun b h q => by
  rcases hb with q' | ⟨b', q1, q2⟩
  · exact ha b (q' ▸ h) q
  · rw [q1] at h; cases h; have := hu _ q; omega
set_option maxHeartbeats 16000000 in
theorem rput_spec {w : World} {rb : Nat} {R : List Nat} {L : Ents} {x : Ent} {K : Value → World → Prop} (h : RTab w rb R L) (hl : L.length ≤ 1000000000)
    (hK : ∀ w' R', RTab w' rb R' (rputL L x) → (∀ y ∈ R', y ∈ R ∨ w.heap.size ≤ y) → Fr R w w' → K (.bool (goodE x)) w') : CallsN Try.prog 22 [.pointer (some ⟨rb, 0, none⟩), .agg (encEnt x).toArray] w K := by
  have cw := cur w
  unfold rputL at hK
  refine call22 ?_
  unfold encEnt
  simp (maxSteps := 4000000) (disch := (first | assumption | exact List.not_mem_nil | exact Fr.refl _ _ | ((repeat (first | assumption | apply cur_alloc | apply cur_setB | apply cur_drew | apply cur_drewN)); done) | omega | (simp only [gz, Value.cells, oneC]; first | done | omega) | ((simp only [List.mem_cons, List.not_mem_nil, or_false, gz]); omega) | rfl)) only [↓gsd, gs, ev, Nat.reduceAdd, Nat.reduceEqDiff, oneC, Value.cells, Option.isNone, gt, frT_self, frT_drew, frT_drew0, frT_alloc, ↓c22_6_s, ↓c22_5_s, ↓c22_12_s, ↓c22_16_s, ↓c22_17_s, ↓c22_15_s, ↓c22_14_s, ↓c22_13_s, ↓c22_11_s, ↓c22_19_s, ↓c22_18_s, ↓c22_10_s, ↓c22_9_s, ↓c22_8_s, ↓c22_7_s, ↓c22_4_s, ↓c22_3_s, ↓c22_22_s, ↓c22_21_s, ↓c22_20_s, ↓c22_1_s, ↓c22_s, ↓w3t_22]
  generalize hW : World.alloc w _ = w1
  have hf1 : Fr [] w w1 := by rw [← hW]; (repeat (first | exact Fr.refl _ _ | assumption | with_reducible apply Fr.alloc | with_reducible apply Fr.drew | with_reducible refine Fr.setB ?_ _ _ (.inr (by first | omega | (simp only [gz]; omega))) | with_reducible refine Fr.setB ?_ _ _ (.inl (by first | assumption | simp)) | with_reducible refine Fr.trans' ?_ (by assumption)))
  have hz1 : w1.heap.size = w.heap.size + 1 := by rw [← hW]; simp only [gz]
  have ge : w1.heap[w.heap.size]? = some (.cells (encEnt x).toArray 36 (0, 0)) := by rw [← hW]; exact get_alloc_new _ _
  clear hW
  have cw1 := cur w1
  refine rgood_spec (e := x) fun w2 hf2 => ?_
  have cw2 := cur w2
  have hF2 := hf1.trans' hf2
  have hR2 := h.frN hF2
  have hfR2 : Fr R w w2 := Fr.trans (M' := []) (Fr.refl _ w) hF2 (by simp)
  cases hg : goodE x with
  | false =>
    rw [hg] at hK
    simp only [Bool.false_eq_true, if_false] at hK
    simp (maxSteps := 4000000) (disch := (first | assumption | exact List.not_mem_nil | exact Fr.refl _ _ | ((repeat (first | assumption | apply cur_alloc | apply cur_setB | apply cur_drew | apply cur_drewN)); done) | omega | (simp only [gz, Value.cells, oneC]; first | done | omega) | ((simp only [List.mem_cons, List.not_mem_nil, or_false, gz]); omega) | rfl)) only [↓gsd, gs, ev, Nat.reduceAdd, Nat.reduceEqDiff, oneC, Value.cells, Option.isNone, gt, frT_self, frT_drew, frT_drew0, frT_alloc, ↓c22_6_s, ↓c22_5_s, ↓c22_12_s, ↓c22_16_s, ↓c22_17_s, ↓c22_15_s, ↓c22_14_s, ↓c22_13_s, ↓c22_11_s, ↓c22_19_s, ↓c22_18_s, ↓c22_10_s, ↓c22_9_s, ↓c22_8_s, ↓c22_7_s, ↓c22_4_s, ↓c22_3_s, ↓c22_22_s, ↓c22_21_s, ↓c22_20_s, ↓c22_1_s, ↓c22_s, ↓w3t_22]
    exact hK _ R hR2 (fun y hy => .inl hy) hfR2
  | true =>
    rw [hg] at hK
    simp only [if_true] at hK
    have ge2 := hf2.getN ge
    have le2 := lt_of_get _ _ ge2
    have hz2 := hf2.size
    unfold encEnt at ge2
    simp (maxSteps := 4000000) (disch := (first | assumption | exact List.not_mem_nil | exact Fr.refl _ _ | ((repeat (first | assumption | apply cur_alloc | apply cur_setB | apply cur_drew | apply cur_drewN)); done) | omega | (simp only [gz, Value.cells, oneC]; first | done | omega) | ((simp only [List.mem_cons, List.not_mem_nil, or_false, gz]); omega) | rfl)) only [↓gsd, gs, ev, Nat.reduceAdd, Nat.reduceEqDiff, oneC, Value.cells, Option.isNone, gt, frT_self, frT_drew, frT_drew0, frT_alloc, ↓c22_6_s, ↓c22_5_s, ↓c22_12_s, ↓c22_16_s, ↓c22_17_s, ↓c22_15_s, ↓c22_14_s, ↓c22_13_s, ↓c22_11_s, ↓c22_19_s, ↓c22_18_s, ↓c22_10_s, ↓c22_9_s, ↓c22_8_s, ↓c22_7_s, ↓c22_4_s, ↓c22_2_s, ↓c22_22_s, ↓c22_21_s, ↓c22_20_s, ↓c22_1_s, ↓c22_s, ↓w3t_22, ge2]
    refine rdrop_spec hR2 hl fun w3 R3 hR3 hn3 hf3 => ?_
    have cw3 := cur w3
    have hz3 := hf3.size
    have heR : w.heap.size ∉ R := fun q => by have := h.lt _ q; omega
    have ge3 := hf3.get ge2 heR
    have hfR3 : Fr R w w3 := hfR2.transM hf3
    have hll : (L.filter (keepE x.key x.lo)).length ≤ 1000000000 := Nat.le_trans (List.length_filter_le _ _) hl
    generalize L.filter (keepE x.key x.lo) = l at hR3 hK hll ⊢
    obtain ⟨⟨v, h1, h2, h3⟩, h4, h5⟩ := id hR3
    simp (maxSteps := 4000000) (disch := (first | assumption | exact List.not_mem_nil | exact Fr.refl _ _ | ((repeat (first | assumption | apply cur_alloc | apply cur_setB | apply cur_drew | apply cur_drewN)); done) | omega | (simp only [gz, Value.cells, oneC]; first | done | omega) | ((simp only [List.mem_cons, List.not_mem_nil, or_false, gz]); omega) | rfl)) only [↓gsd, gs, ev, Nat.reduceAdd, Nat.reduceEqDiff, oneC, Value.cells, Option.isNone, gt, frT_self, frT_drew, frT_drew0, frT_alloc, ↓hk22]
    refine for_intro l.length 7 0 (fun i e w' => ∃ vb vh, e 0 = .pointer (some ⟨rb, 0, none⟩) ∧ e 3 = .pointer (some ⟨w.heap.size, 0, none⟩) ∧ e 5 = vb ∧ e 6 = vh ∧ Own 8 36 w' vb ((l.take i).filter fun a => aheadB a x.key x.lo).length (cellsOf encEnt ((l.take i).filter fun a => aheadB a x.key x.lo)) ∧ Own 8 36 w' vh ((l.take i).filter fun a => !aheadB a x.key x.lo).length (cellsOf encEnt ((l.take i).filter fun a => !aheadB a x.key x.lo)) ∧
      (∀ b, vb.ownBlock = some b → w3.heap.size ≤ b) ∧ (∀ b, vh.ownBlock = some b → w3.heap.size ≤ b) ∧ (∀ b, vb.ownBlock = some b → vh.ownBlock ≠ some b) ∧ Fr [] w3 w') ?_ (Nat.zero_le _) ?_ ?_
    · simp (maxSteps := 4000000) (disch := (first | assumption | exact List.not_mem_nil | exact Fr.refl _ _ | ((repeat (first | assumption | apply cur_alloc | apply cur_setB | apply cur_drew | apply cur_drewN)); done) | omega | (simp only [gz, Value.cells, oneC]; first | done | omega) | ((simp only [List.mem_cons, List.not_mem_nil, or_false, gz]); omega) | rfl)) only [↓gsd, gs, ev, Nat.reduceAdd, Nat.reduceEqDiff, oneC, Value.cells, Option.isNone]; rfl
    · refine ⟨sliceZ, sliceZ, ?_⟩
      simp (maxSteps := 4000000) (disch := (first | assumption | exact List.not_mem_nil | exact Fr.refl _ _ | ((repeat (first | assumption | apply cur_alloc | apply cur_setB | apply cur_drew | apply cur_drewN)); done) | omega | (simp only [gz, Value.cells, oneC]; first | done | omega) | ((simp only [List.mem_cons, List.not_mem_nil, or_false, gz]); omega) | rfl)) only [↓gsd, gs, ev, Nat.reduceAdd, Nat.reduceEqDiff, oneC, Value.cells, Option.isNone]
      exact ⟨Own.nil, Own.nil, fun b hb => by simp [Value.ownBlock] at hb, fun b hb => by simp [Value.ownBlock] at hb, fun b hb => by simp [Value.ownBlock] at hb, Fr.refl _ _⟩
    rintro i e w4 kk hi e7 ⟨vb, vh, e0, e3, e5, e6, hob, hoh, hvb, hvh, hap, hf4⟩ hk
    have cw4 := cur w4
    have hz4 := hf4.size
    have g1 := hf4.getN h1
    have lg1 := lt_of_get _ _ g1
    have ge4 := hf4.getN ge3
    have le4 := lt_of_get _ _ ge4
    have g2 : SlOf 8 encEnt w4 v l := (h2.frN hf4).sl
    obtain ⟨va, vc, hvf⟩ := g2.form
    by_cases hil : i < l.length
    · have d : decide ((i : Int) < (l.length : Int)) = true := decide_eq_true (by omega)
      obtain ⟨y, hy⟩ : ∃ y, l[i]? = some y := ⟨l[i], List.getElem?_eq_getElem hil⟩
      obtain ⟨bb, off, cap, ob, hv1, hob1, _, hrow, _⟩ := g2.read encEnt_len i y hy
      have i0 : (0 : Int) ≤ (i : Int) := by omega
      have i1 : (i : Int) < (l.length : Int) := by omega
      have wr : IntKind.i64.wrap ((i : Int) + 1) = (i : Int) + 1 := wrap64 (by omega) (by omega)
      have ht1 := filter_snoc hy fun a => aheadB a x.key x.lo
      have ht2 := filter_snoc hy fun a => !aheadB a x.key x.lo
      have hfl1 := filter_le l i fun a => aheadB a x.key x.lo
      have hfl2 := filter_le l i fun a => !aheadB a x.key x.lo
      simp (maxSteps := 4000000) (disch := (first | assumption | exact List.not_mem_nil | exact Fr.refl _ _ | ((repeat (first | assumption | apply cur_alloc | apply cur_setB | apply cur_drew | apply cur_drewN)); done) | omega | (simp only [gz, Value.cells, oneC]; first | done | omega) | ((simp only [List.mem_cons, List.not_mem_nil, or_false, gz]); omega) | rfl)) only [↓gsd, gs, ev, Nat.reduceAdd, Nat.reduceEqDiff, oneC, Value.cells, Option.isNone, gt, frT_self, frT_drew, frT_drew0, frT_alloc, ↓hk22, e0, e3, e5, e6, e7, g1, hv1, d, i0, i1, Int.toNat_natCast, hob1, hrow, ge4]
      refine ahead_spec (e := y) fun w5 hf5 => ?_
      have cw5 := cur w5
      have hfd : Fr [] w4 w5 := (Fr.refl _ _).drew.trans' hf5
      have hz5 := hfd.size
      have hob5 := Go.VW.Own.frN hob hfd
      have hoh5 := Go.VW.Own.frN hoh hfd
      have g15 := hfd.getN g1
      have hob15 := hfd.getN hob1
      cases q : aheadB y x.key x.lo with
      | true =>
        rw [if_pos q] at ht1
        rw [if_neg (by simp [q])] at ht2
        obtain ⟨v', w6, hr6, ho6, hf6, hb6⟩ := snocE (x := y) hob5 (by omega)
        have cw6 := cur w6
        rw [← ht1] at ho6
        rw [← ht2] at hoh5
        unfold encEnt at hrow hr6
        simp (maxSteps := 4000000) (disch := (first | assumption | exact List.not_mem_nil | exact Fr.refl _ _ | ((repeat (first | assumption | apply cur_alloc | apply cur_setB | apply cur_drew | apply cur_drewN)); done) | omega | (simp only [gz, Value.cells, oneC]; first | done | omega) | ((simp only [List.mem_cons, List.not_mem_nil, or_false, gz]); omega) | rfl)) only [↓gsd, gs, ev, Nat.reduceAdd, Nat.reduceEqDiff, oneC, Value.cells, Option.isNone, gt, frT_self, frT_drew, frT_drew0, frT_alloc, ↓hk22, eq_true hf5, q, e0, e3, e5, e6, e7, g15, hv1, i0, i1, Int.toNat_natCast, hob15, hrow, hr6, wr]
        refine hk _ _ hil (by simp (maxSteps := 4000000) (disch := (first | assumption | exact List.not_mem_nil | exact Fr.refl _ _ | ((repeat (first | assumption | apply cur_alloc | apply cur_setB | apply cur_drew | apply cur_drewN)); done) | omega | (simp only [gz, Value.cells, oneC]; first | done | omega) | ((simp only [List.mem_cons, List.not_mem_nil, or_false, gz]); omega) | rfl)) only [↓gsd, gs, ev, Nat.reduceAdd, Nat.reduceEqDiff, oneC, Value.cells, Option.isNone]) ⟨v', vh, ?_⟩
        simp (maxSteps := 4000000) (disch := (first | assumption | exact List.not_mem_nil | exact Fr.refl _ _ | ((repeat (first | assumption | apply cur_alloc | apply cur_setB | apply cur_drew | apply cur_drewN)); done) | omega | (simp only [gz, Value.cells, oneC]; first | done | omega) | ((simp only [List.mem_cons, List.not_mem_nil, or_false, gz]); omega) | rfl)) only [↓gsd, gs, ev, Nat.reduceAdd, Nat.reduceEqDiff, oneC, Value.cells, Option.isNone, e0, e3, e5, e6, e7]
        exact ⟨ho6, hoh5.fr hf6 fun b hb e => hap b (mem_blkL.1 hb) e, fresh_of hvb (by omega) hb6, hvh, apart_of hap (fun b hb => hoh5.lt hb) hb6, (hf4.trans' hfd).trans hf6 fun z hz => .inr (hvb z (mem_blkL.1 hz))⟩
      | false =>
        rw [if_neg (by simp [q])] at ht1
        rw [if_pos (by simp [q])] at ht2
        obtain ⟨v', w6, hr6, ho6, hf6, hb6⟩ := snocE (x := y) hoh5 (by omega)
        have cw6 := cur w6
        rw [← ht2] at ho6
        rw [← ht1] at hob5
        unfold encEnt at hrow hr6
        simp (maxSteps := 4000000) (disch := (first | assumption | exact List.not_mem_nil | exact Fr.refl _ _ | ((repeat (first | assumption | apply cur_alloc | apply cur_setB | apply cur_drew | apply cur_drewN)); done) | omega | (simp only [gz, Value.cells, oneC]; first | done | omega) | ((simp only [List.mem_cons, List.not_mem_nil, or_false, gz]); omega) | rfl)) only [↓gsd, gs, ev, Nat.reduceAdd, Nat.reduceEqDiff, oneC, Value.cells, Option.isNone, gt, frT_self, frT_drew, frT_drew0, frT_alloc, ↓hk22, eq_true hf5, q, e0, e3, e5, e6, e7, g15, hv1, i0, i1, Int.toNat_natCast, hob15, hrow, hr6, wr]
        refine hk _ _ hil (by simp (maxSteps := 4000000) (disch := (first | assumption | exact List.not_mem_nil | exact Fr.refl _ _ | ((repeat (first | assumption | apply cur_alloc | apply cur_setB | apply cur_drew | apply cur_drewN)); done) | omega | (simp only [gz, Value.cells, oneC]; first | done | omega) | ((simp only [List.mem_cons, List.not_mem_nil, or_false, gz]); omega) | rfl)) only [↓gsd, gs, ev, Nat.reduceAdd, Nat.reduceEqDiff, oneC, Value.cells, Option.isNone]) ⟨vb, v', ?_⟩
        simp (maxSteps := 4000000) (disch := (first | assumption | exact List.not_mem_nil | exact Fr.refl _ _ | ((repeat (first | assumption | apply cur_alloc | apply cur_setB | apply cur_drew | apply cur_drewN)); done) | omega | (simp only [gz, Value.cells, oneC]; first | done | omega) | ((simp only [List.mem_cons, List.not_mem_nil, or_false, gz]); omega) | rfl)) only [↓gsd, gs, ev, Nat.reduceAdd, Nat.reduceEqDiff, oneC, Value.cells, Option.isNone, e0, e3, e5, e6, e7]
        exact ⟨hob5.fr hf6 fun b hb e => hap b e (mem_blkL.1 hb), ho6, hvb, fresh_of hvh (by omega) hb6, fun b h1 h2 => apart_of (fun b h1 h2 => hap b h2 h1) (fun b hb => hob5.lt hb) hb6 b h2 h1, (hf4.trans' hfd).trans hf6 fun z hz => .inr (hvh z (mem_blkL.1 hz))⟩
    · have d : decide ((i : Int) < (l.length : Int)) = false := decide_eq_false (by omega)
      have hti : l.take i = l := List.take_of_length_le (by omega)
      rw [hti] at hob hoh
      have hfl1 := List.length_filter_le (fun a => aheadB a x.key x.lo) l
      have hfl2 := List.length_filter_le (fun a => !aheadB a x.key x.lo) l
      obtain ⟨v5, w5, hr5, ho5, hf5, hb5⟩ := snocE (x := x) hob (by omega)
      have cw5 := cur w5
      have hz5 := hf5.size
      have hoh5 := hoh.fr hf5 fun b hb e => hap b (mem_blkL.1 hb) e
      have hap5 := apart_of hap (fun b hb => hoh.lt hb) hb5
      have hv5 := fresh_of hvb hz4 hb5
      obtain ⟨v6, w6, hr6, ho6, hf6, hb6⟩ := ap27 (ty := 27) ho5 hoh5.sl (cellsE_one _) (by rw [List.length_append, List.length_singleton]; omega)
      have cw6 := cur w6
      have hz6 := hf6.size
      obtain ⟨oa, oc, hv6f⟩ := ho6.sl.form
      have hv6 := fresh_of hv5 (by omega) hb6
      have hf46 : Fr [] w3 w6 := (hf4.trans hf5 fun z hz => .inr (hvb z (mem_blkL.1 hz))).trans hf6 fun z hz => .inr (hv5 z (mem_blkL.1 hz))
      have g16 := hf46.getN h1
      have lg6 := lt_of_get _ _ g16
      unfold encEnt at hr5
      rw [hvf] at g1
      simp (maxSteps := 4000000) (disch := (first | assumption | exact List.not_mem_nil | exact Fr.refl _ _ | ((repeat (first | assumption | apply cur_alloc | apply cur_setB | apply cur_drew | apply cur_drewN)); done) | omega | (simp only [gz, Value.cells, oneC]; first | done | omega) | ((simp only [List.mem_cons, List.not_mem_nil, or_false, gz]); omega) | rfl)) only [↓gsd, gs, ev, Nat.reduceAdd, Nat.reduceEqDiff, oneC, Value.cells, Option.isNone, gt, frT_self, frT_drew, frT_drew0, frT_alloc, ↓hk22, e0, e3, e5, e6, e7, g1, d, ge4, hr5, hr6, g16, hv6f]
      rw [← hv6f]
      rw [← List.length_append, ← cellsOf_append] at ho6
      generalize hW : World.setB w6 rb _ = w7
      have hf7 : Fr [rb] w6 w7 := by rw [← hW]; (repeat (first | exact Fr.refl _ _ | assumption | with_reducible apply Fr.alloc | with_reducible apply Fr.drew | with_reducible refine Fr.setB ?_ _ _ (.inr (by first | omega | (simp only [gz]; omega))) | with_reducible refine Fr.setB ?_ _ _ (.inl (by first | assumption | simp)) | with_reducible refine Fr.trans' ?_ (by assumption)))
      have h17 : w7.heap[rb]? = some (.cells ([v6] : List Value).toArray 29 (0, 0)) := by rw [← hW]; exact get_setB_same _ _ _ lg6
      refine hK w7 (rb :: blkL v6) ⟨⟨v6, h17, ho6.fr hf7 fun b hb e => ?_, fun b hb => List.mem_cons_of_mem _ (mem_blkL.2 hb)⟩, List.mem_cons_self .., fun y hy => ?_⟩ (fun y hy => ?_) ?_
      · simp at hb; subst hb; exact own_head ho6 g16 (by decide) e
      · rcases List.mem_cons.1 hy with rfl | hy
        · have := hf7.size; omega
        · have := ho6.lt (mem_blkL.1 hy); have := hf7.size; omega
      · rcases List.mem_cons.1 hy with rfl | hy
        · rcases hn3 _ h4 with q | q
          · exact .inl q
          · right; omega
        · have := hv6 _ (mem_blkL.1 hy); right; omega
      · refine Fr.trans (M' := [rb]) (hfR3.trans' hf46) hf7 fun y hy => ?_
        simp at hy; subst hy
        rcases hn3 _ h4 with q | q
        · exact .inl q
        · right; omega
end Go.Proofs.Ytldmkhakjnglmaa
