/- step walked. -/
import Derived.Test.YtenokheiindfkaaV4
set_option linter.unusedVariables false
set_option linter.unusedSimpArgs false
set_option maxRecDepth 10000
namespace Go.Proofs.Ytenokheiindfkaa
open Go.VW
set_option maxHeartbeats 8000000 in
theorem step_spec {w0 w : World} {gb rb : Nat} {g : GS Rec} {clr : Bool} {r : Rec} {K : Value → World → Prop} (h : Both w0 w gb rb g) (hrk : RK w0 r) (hK : ∀ w', Both w0 w' gb rb (stepG g clr r) → K (.bool true) w') :
    CallsN Try.prog 28 [.pointer (some ⟨gb, 0, none⟩), .pointer (some ⟨rb, 0, none⟩), .agg ([.bool clr, .int .i64 r.n, .slice r.a r.l r.c] : List Value).toArray] w K := by
  have cw := cur w
  obtain ⟨gm, vx, hg, hr, hgm0, hvx0⟩ := h.ex
  have hwf := h.wf
  refine call28 ?_
  simp (maxSteps := 4000000) (disch := (first | assumption | exact List.not_mem_nil | ((repeat (first | assumption | apply cur_alloc | apply cur_setB | apply cur_drew | apply cur_drewN)); done) | omega | (simp only [gz, Value.cells, oneC]; first | done | omega) | ((simp only [List.mem_cons, List.not_mem_nil, or_false, gz]); omega) | rfl)) only [↓gsd, gs, ev, Nat.reduceAdd, Nat.reduceEqDiff, oneC, Value.cells, Option.isNone, gt, ↓o28_0_eq, ↓o28_8_eq, ↓o28_9_eq, ↓o28_12_eq, ↓c28_5_s, ↓o28_10_eq, ↓o28_11_eq, ↓c28_8_s, ↓c28_7_s, ↓c28_6_s, ↓c28_4_s, ↓c28_3_s, ↓o28_1_eq, ↓o28_2_eq, ↓o28_3_eq, ↓c28_12_s, ↓c28_11_s, ↓o28_4_eq, ↓o28_5_eq, ↓o28_6_eq, ↓o28_7_eq, ↓c28_17_s, ↓c28_16_s, ↓c28_15_s, ↓c28_14_s, ↓c28_13_s, ↓c28_10_s, ↓c28_9_s, ↓c28_1_s, ↓c28_s]
  generalize hW : World.alloc w _ = w1
  have hf1 : Fr [] w w1 := by rw [← hW]; (repeat (first | exact Fr.refl _ _ | assumption | with_reducible apply Fr.alloc | with_reducible apply Fr.drew | with_reducible refine Fr.setB ?_ _ _ (.inr (by first | omega | (simp only [gz]; omega))) | with_reducible refine Fr.setB ?_ _ _ (.inl (by first | assumption | simp)) | with_reducible refine Fr.trans' ?_ (by assumption)))
  have hz1 : w1.heap.size = w.heap.size + 1 := by rw [← hW]; simp only [gz]
  have g5 : w1.heap[w.heap.size]? = some (.cells ([.bool clr, .int .i64 r.n, .slice r.a r.l r.c] : List Value).toArray 59 (0, 0)) := by rw [← hW]; exact get_alloc_new _ _
  clear hW
  have cw1 := cur w1
  have hlt5 := lt_of_get _ _ g5
  have hg1 := hg.frN hf1
  have hr1 := hr.frN hf1
  obtain ⟨n1, n2, n3, n4⟩ := both_apart hg1 hr1
  have hlt1 := hg1.lt
  have hltr := lt_of_get _ _ hr.head
  have hltg := hg.lt
  cases clr with
  | true =>
    simp (maxSteps := 4000000) (disch := (first | assumption | exact List.not_mem_nil | ((repeat (first | assumption | apply cur_alloc | apply cur_setB | apply cur_drew | apply cur_drewN)); done) | omega | (simp only [gz, Value.cells, oneC]; first | done | omega) | ((simp only [List.mem_cons, List.not_mem_nil, or_false, gz]); omega) | rfl)) only [↓gsd, gs, ev, Nat.reduceAdd, Nat.reduceEqDiff, oneC, Value.cells, Option.isNone, gt, ↓o28_0_eq, ↓o28_8_eq, ↓o28_9_eq, ↓o28_12_eq, ↓c28_5_s, ↓o28_10_eq, ↓o28_11_eq, ↓c28_8_s, ↓c28_7_s, ↓c28_6_s, ↓c28_4_s, ↓c28_3_s, ↓o28_1_eq, ↓o28_2_eq, ↓o28_3_eq, ↓c28_12_s, ↓c28_11_s, ↓o28_4_eq, ↓o28_5_eq, ↓o28_6_eq, ↓o28_7_eq, ↓c28_17_s, ↓c28_16_s, ↓c28_15_s, ↓c28_14_s, ↓c28_13_s, ↓c28_10_s, ↓c28_9_s, ↓c28_1_s, ↓c28_s, g5]
    refine clearR hg1.head fun gm' w2 hf2 hgm' hg2 => ?_
    have cw2 := cur w2
    have hz2 := hf2.size
    have g5' := hf2.get g5 (by simp; omega)
    have hr2 := hr1.fr hf2 (by simp; exact n1) (by intro b hb e; simp at hb; subst hb; exact n3 e)
    have hlt2 := hg2.lt
    simp (maxSteps := 4000000) (disch := (first | assumption | exact List.not_mem_nil | ((repeat (first | assumption | apply cur_alloc | apply cur_setB | apply cur_drew | apply cur_drewN)); done) | omega | (simp only [gz, Value.cells, oneC]; first | done | omega) | ((simp only [List.mem_cons, List.not_mem_nil, or_false, gz]); omega) | rfl)) only [↓gsd, gs, ev, Nat.reduceAdd, Nat.reduceEqDiff, oneC, Value.cells, Option.isNone, gt, ↓o28_0_eq, ↓o28_8_eq, ↓o28_9_eq, ↓o28_12_eq, ↓c28_5_s, ↓o28_10_eq, ↓o28_11_eq, ↓c28_8_s, ↓c28_7_s, ↓c28_6_s, ↓c28_4_s, ↓c28_3_s, ↓o28_1_eq, ↓o28_2_eq, ↓o28_3_eq, ↓c28_12_s, ↓c28_11_s, ↓o28_4_eq, ↓o28_5_eq, ↓o28_6_eq, ↓o28_7_eq, ↓c28_17_s, ↓c28_16_s, ↓c28_15_s, ↓c28_14_s, ↓c28_13_s, ↓c28_10_s, ↓c28_9_s, ↓c28_1_s, ↓c28_s, g5']
    refine refClear hr2 fun w3 hf3 hr3 => ?_
    have cw3 := cur w3
    have hg3 := hg2.fr hf3 (by simp; omega) (by simp; omega)
    have hB : Both w0 w3 gb rb (stepG g true r) := ⟨((h.fr.trans' hf1).trans hf2 fun x hx => by simp at hx; subst hx; exact .inr h.gb0).trans hf3 fun x hx => by simp at hx; subst hx; exact .inr h.rb0,
      ⟨gm', .slice none 0 0, hg3, hr3, by have := h.fr.size; omega, fun x hx => by simp [Value.ownBlock] at hx⟩, h.gb0, h.rb0, hwf.clear _, by intro p hp; simp [stepG, GS.clear] at hp, by intro p hp; simp [stepG, GS.clear] at hp⟩
    try simp (maxSteps := 4000000) (disch := (first | assumption | exact List.not_mem_nil | ((repeat (first | assumption | apply cur_alloc | apply cur_setB | apply cur_drew | apply cur_drewN)); done) | omega | (simp only [gz, Value.cells, oneC]; first | done | omega) | ((simp only [List.mem_cons, List.not_mem_nil, or_false, gz]); omega) | rfl)) only [↓gsd, gs, ev, Nat.reduceAdd, Nat.reduceEqDiff, oneC, Value.cells, Option.isNone, gt, ↓o28_0_eq, ↓o28_8_eq, ↓o28_9_eq, ↓o28_12_eq, ↓c28_5_s, ↓o28_10_eq, ↓o28_11_eq, ↓c28_8_s, ↓c28_7_s, ↓c28_6_s, ↓c28_4_s, ↓c28_3_s, ↓o28_1_eq, ↓o28_2_eq, ↓o28_3_eq, ↓c28_12_s, ↓c28_11_s, ↓o28_4_eq, ↓o28_5_eq, ↓o28_6_eq, ↓o28_7_eq, ↓c28_17_s, ↓c28_16_s, ↓c28_15_s, ↓c28_14_s, ↓c28_13_s, ↓c28_10_s, ↓c28_9_s, ↓c28_1_s, ↓c28_s]
    exact stepEnd hB (by simp (maxSteps := 4000000) (disch := (first | assumption | exact List.not_mem_nil | ((repeat (first | assumption | apply cur_alloc | apply cur_setB | apply cur_drew | apply cur_drewN)); done) | omega | (simp only [gz, Value.cells, oneC]; first | done | omega) | ((simp only [List.mem_cons, List.not_mem_nil, or_false, gz]); omega) | rfl)) only [↓gsd, gs, ev, Nat.reduceAdd, Nat.reduceEqDiff, oneC, Value.cells, Option.isNone]) (by simp (maxSteps := 4000000) (disch := (first | assumption | exact List.not_mem_nil | ((repeat (first | assumption | apply cur_alloc | apply cur_setB | apply cur_drew | apply cur_drewN)); done) | omega | (simp only [gz, Value.cells, oneC]; first | done | omega) | ((simp only [List.mem_cons, List.not_mem_nil, or_false, gz]); omega) | rfl)) only [↓gsd, gs, ev, Nat.reduceAdd, Nat.reduceEqDiff, oneC, Value.cells, Option.isNone]) fun w' hf' => hK _ (hB.frN hf')
  | false =>
    simp (maxSteps := 4000000) (disch := (first | assumption | exact List.not_mem_nil | ((repeat (first | assumption | apply cur_alloc | apply cur_setB | apply cur_drew | apply cur_drewN)); done) | omega | (simp only [gz, Value.cells, oneC]; first | done | omega) | ((simp only [List.mem_cons, List.not_mem_nil, or_false, gz]); omega) | rfl)) only [↓gsd, gs, ev, Nat.reduceAdd, Nat.reduceEqDiff, oneC, Value.cells, Option.isNone, gt, ↓o28_0_eq, ↓o28_8_eq, ↓o28_9_eq, ↓o28_12_eq, ↓c28_5_s, ↓o28_10_eq, ↓o28_11_eq, ↓c28_8_s, ↓c28_7_s, ↓c28_6_s, ↓c28_4_s, ↓c28_3_s, ↓o28_1_eq, ↓o28_2_eq, ↓o28_3_eq, ↓c28_12_s, ↓c28_11_s, ↓o28_4_eq, ↓o28_5_eq, ↓o28_6_eq, ↓o28_7_eq, ↓c28_17_s, ↓c28_16_s, ↓c28_15_s, ↓c28_14_s, ↓c28_13_s, ↓c28_10_s, ↓c28_9_s, ↓c28_1_s, ↓c28_s, g5]
    refine putR (v := r) hg1 hwf fun vo w2 hown hfr hf2 hg2 => ?_
    have cw2 := cur w2
    have hz2 := hf2.size
    have g5' := hf2.get g5 (by simp; omega)
    have hlt5' := lt_of_get _ _ g5'
    have hr2 := hr1.fr hf2 (by simp; omega) (by intro b hb e; simp at hb; rcases hb with rfl | rfl; exact n3 e; exact n4 e)
    have hok := put_ok hwf r.n r
    have hwf2 := hwf.put r.n r
    have hkey := put_key (r := r) hwf h.key
    have hltb := lt_of_get _ _ hr2.head
    simp (maxSteps := 4000000) (disch := (first | assumption | exact List.not_mem_nil | ((repeat (first | assumption | apply cur_alloc | apply cur_setB | apply cur_drew | apply cur_drewN)); done) | omega | (simp only [gz, Value.cells, oneC]; first | done | omega) | ((simp only [List.mem_cons, List.not_mem_nil, or_false, gz]); omega) | rfl)) only [↓gsd, gs, ev, Nat.reduceAdd, Nat.reduceEqDiff, oneC, Value.cells, Option.isNone, gt, ↓o28_0_eq, ↓o28_8_eq, ↓o28_9_eq, ↓o28_12_eq, ↓c28_5_s, ↓o28_10_eq, ↓o28_11_eq, ↓c28_8_s, ↓c28_7_s, ↓c28_6_s, ↓c28_4_s, ↓c28_3_s, ↓o28_1_eq, ↓o28_2_eq, ↓o28_3_eq, ↓c28_12_s, ↓c28_11_s, ↓o28_4_eq, ↓o28_5_eq, ↓o28_6_eq, ↓o28_7_eq, ↓c28_17_s, ↓c28_16_s, ↓c28_15_s, ↓c28_14_s, ↓c28_13_s, ↓c28_10_s, ↓c28_9_s, ↓c28_1_s, ↓c28_s, g5']
    refine refPut hr2 h.key hwf fun vp vx' w3 hown3 hr3 hf3 hvx' hfr3 => ?_
    have cw3 := cur w3
    have hz3 := hf3.size
    have hvxl : ∀ y, vx.ownBlock = some y → y < w.heap.size := fun y hy => hr.own.lt hy
    have hvo3 : Own 2 54 w3 vo _ _ := hown.fr hf3 (by
      intro b hb e
      have h1 := hfr b e
      rcases List.mem_cons.1 hb with rfl | hb
      · omega
      · have := hvxl b (blkL_sub hb)
        omega)
    have hg3 := hg2.fr hf3 (fun hm => by
      rcases List.mem_cons.1 hm with e | hm
      · exact n1 e.symm
      · exact n3 (blkL_sub hm)) (fun hm => by
      rcases List.mem_cons.1 hm with e | hm
      · exact n2 e.symm
      · exact n4 (blkL_sub hm))
    have hF3 : Fr [] w0 w3 := ((h.fr.trans' hf1).trans hf2 fun x hx => by simp at hx; rcases hx with rfl | rfl; exact .inr h.gb0; exact .inr hgm0).trans hf3 fun x hx => by
      rcases List.mem_cons.1 hx with rfl | hx
      · exact .inr h.rb0
      · exact .inr (hvx0 _ (blkL_sub hx))
    have hrkall : ∀ p ∈ (r.n, r) :: g.ws, RK w0 p.2 := fun p hp => by
      rcases List.mem_cons.1 hp with h1 | h1
      · subst h1; exact hrk
      · exact h.rk p h1
    have hB : Both w0 w3 gb rb (stepG g false r) := ⟨hF3, ⟨gm, vx', hg3, hr3, hgm0, fun x hx => by
        rcases hvx' x hx with h1 | h1
        · exact hvx0 x h1
        · have := h.fr.size; omega⟩, h.gb0, h.rb0, hwf2, hkey, fun p hp => hrkall p (hok.ws p hp)⟩
    have hll : (g.put r.n r).1.1.length ≤ 9223372036854775806 := by
      have h1 := hok.at_
      have h2 := hwf2.a1
      have h3 := hwf.a0
      omega
    obtain ⟨oa, oc, hvo⟩ := hvo3.sl.form
    try simp (maxSteps := 4000000) (disch := (first | assumption | exact List.not_mem_nil | ((repeat (first | assumption | apply cur_alloc | apply cur_setB | apply cur_drew | apply cur_drewN)); done) | omega | (simp only [gz, Value.cells, oneC]; first | done | omega) | ((simp only [List.mem_cons, List.not_mem_nil, or_false, gz]); omega) | rfl)) only [↓gsd, gs, ev, Nat.reduceAdd, Nat.reduceEqDiff, oneC, Value.cells, Option.isNone, gt, ↓o28_0_eq, ↓o28_8_eq, ↓o28_9_eq, ↓o28_12_eq, ↓c28_5_s, ↓o28_10_eq, ↓o28_11_eq, ↓c28_8_s, ↓c28_7_s, ↓c28_6_s, ↓c28_4_s, ↓c28_3_s, ↓o28_1_eq, ↓o28_2_eq, ↓o28_3_eq, ↓c28_12_s, ↓c28_11_s, ↓o28_4_eq, ↓o28_5_eq, ↓o28_6_eq, ↓o28_7_eq, ↓c28_17_s, ↓c28_16_s, ↓c28_15_s, ↓c28_14_s, ↓c28_13_s, ↓c28_10_s, ↓c28_9_s, ↓c28_1_s, ↓c28_s]
    have hbb : ((g.put r.n r).1.2 == (g.put r.n r).1.2) = true := by simp
    simp (maxSteps := 4000000) (disch := (first | assumption | exact List.not_mem_nil | ((repeat (first | assumption | apply cur_alloc | apply cur_setB | apply cur_drew | apply cur_drewN)); done) | omega | (simp only [gz, Value.cells, oneC]; first | done | omega) | ((simp only [List.mem_cons, List.not_mem_nil, or_false, gz]); omega) | rfl)) only [↓gsd, gs, ev, Nat.reduceAdd, Nat.reduceEqDiff, oneC, Value.cells, Option.isNone, gt, ↓o28_0_eq, ↓o28_8_eq, ↓o28_9_eq, ↓o28_12_eq, ↓c28_5_s, ↓o28_10_eq, ↓o28_11_eq, ↓c28_8_s, ↓c28_7_s, ↓c28_6_s, ↓c28_4_s, ↓c28_3_s, ↓o28_1_eq, ↓o28_2_eq, ↓o28_3_eq, ↓c28_12_s, ↓c28_11_s, ↓o28_4_eq, ↓o28_5_eq, ↓o28_6_eq, ↓o28_7_eq, ↓c28_17_s, ↓c28_16_s, ↓c28_15_s, ↓c28_14_s, ↓c28_13_s, ↓c28_10_s, ↓c28_9_s, ↓c28_1_s, ↓c28_s, hbb]
    refine sameAll_true hvo3.sl hown3.sl rfl hll (fun i a b ha hb => ?_) fun w4 hf4 => ?_
    · rw [ha] at hb
      cases hb
      obtain ⟨ks, h1, h2⟩ := hrkall _ (hok.out i a ha)
      exact ⟨rfl, ks, h2 w3 hF3, h2 w3 hF3, h1⟩
    · have cw4 := cur w4
      have hB4 := hB.frN hf4
      try simp (maxSteps := 4000000) (disch := (first | assumption | exact List.not_mem_nil | ((repeat (first | assumption | apply cur_alloc | apply cur_setB | apply cur_drew | apply cur_drewN)); done) | omega | (simp only [gz, Value.cells, oneC]; first | done | omega) | ((simp only [List.mem_cons, List.not_mem_nil, or_false, gz]); omega) | rfl)) only [↓gsd, gs, ev, Nat.reduceAdd, Nat.reduceEqDiff, oneC, Value.cells, Option.isNone, gt, ↓o28_0_eq, ↓o28_8_eq, ↓o28_9_eq, ↓o28_12_eq, ↓c28_5_s, ↓o28_10_eq, ↓o28_11_eq, ↓c28_8_s, ↓c28_7_s, ↓c28_6_s, ↓c28_4_s, ↓c28_3_s, ↓o28_1_eq, ↓o28_2_eq, ↓o28_3_eq, ↓c28_12_s, ↓c28_11_s, ↓o28_4_eq, ↓o28_5_eq, ↓o28_6_eq, ↓o28_7_eq, ↓c28_17_s, ↓c28_16_s, ↓c28_15_s, ↓c28_14_s, ↓c28_13_s, ↓c28_10_s, ↓c28_9_s, ↓c28_1_s, ↓c28_s]
      exact stepEnd hB4 (by simp (maxSteps := 4000000) (disch := (first | assumption | exact List.not_mem_nil | ((repeat (first | assumption | apply cur_alloc | apply cur_setB | apply cur_drew | apply cur_drewN)); done) | omega | (simp only [gz, Value.cells, oneC]; first | done | omega) | ((simp only [List.mem_cons, List.not_mem_nil, or_false, gz]); omega) | rfl)) only [↓gsd, gs, ev, Nat.reduceAdd, Nat.reduceEqDiff, oneC, Value.cells, Option.isNone]) (by simp (maxSteps := 4000000) (disch := (first | assumption | exact List.not_mem_nil | ((repeat (first | assumption | apply cur_alloc | apply cur_setB | apply cur_drew | apply cur_drewN)); done) | omega | (simp only [gz, Value.cells, oneC]; first | done | omega) | ((simp only [List.mem_cons, List.not_mem_nil, or_false, gz]); omega) | rfl)) only [↓gsd, gs, ev, Nat.reduceAdd, Nat.reduceEqDiff, oneC, Value.cells, Option.isNone]) fun w' hf' => hK _ (hB4.frN hf')
end Go.Proofs.Ytenokheiindfkaa
