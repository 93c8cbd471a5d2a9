/- step: an Op on both. -/
import Derived.Test.YtenokheiindfkaaV3
set_option linter.unusedVariables false
set_option linter.unusedSimpArgs false
set_option maxRecDepth 10000
namespace Go.Proofs.Ytenokheiindfkaa
open Go.VW
/-- A record whose keys can be read in every world that grows out of w0. -/
def RK (w0 : World) (r : Rec) : Prop := ∃ ks, r.l ≤ 9223372036854775807 ∧ ∀ w', Fr [] w0 w' → RecK w' r ks
structure Both (w0 w : World) (gb rb : Nat) (g : GS Rec) : Prop where
  fr : Fr [] w0 w
  ex : ∃ gm vx, GapAtR w gb gm g ∧ RefAt w rb vx g ∧ w0.heap.size ≤ gm ∧ ∀ x, vx.ownBlock = some x → w0.heap.size ≤ x
  gb0 : w0.heap.size ≤ gb
  rb0 : w0.heap.size ≤ rb
  wf : g.WF
  key : KeyN g
  rk : ∀ p ∈ g.ws, RK w0 p.2
theorem Both.frN {w0 w w' : World} {gb rb : Nat} {g : GS Rec} (h : Both w0 w gb rb g) (hf : Fr [] w w') : Both w0 w' gb rb g := by
  obtain ⟨gm, vx, h1, h2, h3, h4⟩ := h.ex
  exact ⟨h.fr.trans' hf, ⟨gm, vx, h1.frN hf, h2.frN hf, h3, h4⟩, h.gb0, h.rb0, h.wf, h.key, h.rk⟩
def stepG (g : GS Rec) (clr : Bool) (r : Rec) : GS Rec := if clr = true then g.clear r.n else (g.put r.n r).2
theorem ne125 (c : Array Value) (fr : Nat × Nat) : ∀ c' fr', (Obj.cells c 125 fr) ≠ .cells c' 54 fr' := fun c' fr' e => by cases e
theorem neM (c : Array MapEntry) (k : Nat) : ∀ c' fr', (Obj.map c k) ≠ .cells c' 54 fr' := fun c' fr' e => by cases e
theorem both_apart {w : World} {gb gm rb : Nat} {vx : Value} {g g' : GS Rec} (h : GapAtR w gb gm g) (h' : RefAt w rb vx g') : rb ≠ gb ∧ rb ≠ gm ∧ vx.ownBlock ≠ some gb ∧ vx.ownBlock ≠ some gm := by
  obtain ⟨ents, clock, hbo, _⟩ := id h.map.ex
  refine ⟨fun e => ?_, fun e => ?_, blk_ne h'.own h.head (ne125 _ _), blk_ne h'.own hbo (neM _ _)⟩
  · have := h'.head
    rw [e, h.head] at this
    simp at this
  · have := h'.head
    rw [e, hbo] at this
    simp at this
theorem blkL_sub {v : Value} {y : Nat} (hy : y ∈ blkL v) : v.ownBlock = some y := by
  unfold blkL at hy
  split at hy
  · rename_i g' hg'
    simp at hy
    rw [hg', hy]
  · simp at hy
theorem put_key {g : GS Rec} {r : Rec} (hwf : g.WF) (hk : KeyN g) : KeyN (g.put r.n r).2 := by
  intro p hp
  rcases List.mem_cons.1 ((put_ok hwf r.n r).ws p hp) with h | h
  · subst h; rfl
  · exact hk p h
/-- The last part of a step: both look alike. -/
theorem stepEnd {w0 w : World} {gb rb : Nat} {g : GS Rec} {e : Env} {K : Value → World → Prop} (h : Both w0 w gb rb g) (e0 : e 0 = .pointer (some ⟨gb, 0, none⟩)) (e1 : e 1 = .pointer (some ⟨rb, 0, none⟩))
    (hK : ∀ w', Fr [] w w' → K (.bool true) w') : W Try.prog 85 V28 c28_2 (retQ Try.prog [.tmp 6] K) e w := by
  have cw := cur w
  obtain ⟨gm, vx, hg, hr, _, _⟩ := h.ex
  have hwf := h.wf
  have ha0 := hwf.a0
  have ha1 := hwf.a1
  obtain ⟨xa, xc, hvxf⟩ := hr.own.sl.form
  simp (maxSteps := 4000000) (disch := (first | assumption | exact List.not_mem_nil | ((repeat (first | assumption | apply cur_alloc | apply cur_setB | apply cur_drew | apply cur_drewN)); done) | omega | (simp only [gz, Value.cells, oneC]; first | done | omega) | ((simp only [List.mem_cons, List.not_mem_nil, or_false, gz]); omega) | rfl)) only [↓gsd, gs, ev, Nat.reduceAdd, Nat.reduceEqDiff, oneC, Value.cells, Option.isNone, gt, ↓hk28, e0, e1]
  refine refWaits hr h.key hwf fun vw w1 hw1 hf1 hfr1 => ?_
  have cw1 := cur w1
  have hz1 := hf1.size
  obtain ⟨wa, wc, hvw⟩ := hw1.sl.form
  have hsw := sl_ints hw1
  simp (maxSteps := 4000000) (disch := (first | assumption | exact List.not_mem_nil | ((repeat (first | assumption | apply cur_alloc | apply cur_setB | apply cur_drew | apply cur_drewN)); done) | omega | (simp only [gz, Value.cells, oneC]; first | done | omega) | ((simp only [List.mem_cons, List.not_mem_nil, or_false, gz]); omega) | rfl)) only [↓gsd, gs, ev, Nat.reduceAdd, Nat.reduceEqDiff, oneC, Value.cells, Option.isNone, gt, ↓hk28, e0, e1]
  generalize hW : World.alloc w1 _ = w2
  have hf2 : Fr [] w1 w2 := by rw [← hW]; (repeat (first | exact Fr.refl _ _ | assumption | with_reducible apply Fr.alloc | with_reducible apply Fr.drew | with_reducible refine Fr.setB ?_ _ _ (.inr (by first | omega | (simp only [gz]; omega))) | with_reducible refine Fr.setB ?_ _ _ (.inl (by first | assumption | simp)) | with_reducible refine Fr.trans' ?_ (by assumption)))
  have hz2 : w2.heap.size = w1.heap.size + 1 := by rw [← hW]; simp only [gz]
  have g12 : w2.heap[w1.heap.size]? = some (.cells ([.int .i64 0, .int .i64 0] : List Value).toArray 86 (0, 0)) := by rw [← hW]; exact get_alloc_new _ _
  clear hW
  have cw2 := cur w2
  have hlt12 := lt_of_get _ _ g12
  have fin : ∀ (e : Env) (w3 : World), e 0 = .pointer (some ⟨gb, 0, none⟩) → e 1 = .pointer (some ⟨rb, 0, none⟩) → e 11 = vw → e 12 = .pointer (some ⟨w1.heap.size, 0, none⟩) → Fr [w1.heap.size] w2 w3 →
      w3.heap[w1.heap.size]? = some (.cells ([.int .i64 g.lacks.1, .int .i64 g.lacks.2] : List Value).toArray 86 (0, 0)) → W Try.prog 85 V28 c28_5 (retQ Try.prog [.tmp 6] K) e w3 := by
    intro e w3 e0 e1 e11 e12 hf3 q12
    have cw3 := cur w3
    have hz3 := hf3.size
    have hltq := lt_of_get _ _ q12
    have hF3 : Fr [] w w3 := (hf1.trans' hf2).trans hf3 fun x hx => by simp at hx; subst hx; exact .inr hz1
    have hg3 := hg.frN hF3
    have hr3 := hr.frN hF3
    have hh3 := hr3.head
    rw [hvxf] at hh3
    have hlt3 := lt_of_get _ _ hh3
    have hsw3 := (hsw.frN hf2).fr hf3 (by
      intro x hx a n c e
      simp at hx; subst hx
      rcases hw1.2 with ⟨rfl, _⟩ | ⟨g', cap, cur', hv', _, hb', _⟩
      · cases e
      · rw [hv'] at e
        cases e
        have := lt_of_get _ _ hb'
        simp only; omega)
    simp (maxSteps := 4000000) (disch := (first | assumption | exact List.not_mem_nil | ((repeat (first | assumption | apply cur_alloc | apply cur_setB | apply cur_drew | apply cur_drewN)); done) | omega | (simp only [gz, Value.cells, oneC]; first | done | omega) | ((simp only [List.mem_cons, List.not_mem_nil, or_false, gz]); omega) | rfl)) only [↓gsd, gs, ev, Nat.reduceAdd, Nat.reduceEqDiff, oneC, Value.cells, Option.isNone, gt, ↓hk28, e0, e1, e11, e12]
    refine draw_intro [] ?_
    simp (maxSteps := 4000000) (disch := (first | assumption | exact List.not_mem_nil | ((repeat (first | assumption | apply cur_alloc | apply cur_setB | apply cur_drew | apply cur_drewN)); done) | omega | (simp only [gz, Value.cells, oneC]; first | done | omega) | ((simp only [List.mem_cons, List.not_mem_nil, or_false, gz]); omega) | rfl)) only [↓gsd, gs, ev, Nat.reduceAdd, Nat.reduceEqDiff, oneC, Value.cells, Option.isNone, gt, ↓hk28, e0, e1, e11, e12, hh3]
    refine atR (hg3.frN (Fr.refl _ _).drew) ?_
    simp (maxSteps := 4000000) (disch := (first | assumption | exact List.not_mem_nil | ((repeat (first | assumption | apply cur_alloc | apply cur_setB | apply cur_drew | apply cur_drewN)); done) | omega | (simp only [gz, Value.cells, oneC]; first | done | omega) | ((simp only [List.mem_cons, List.not_mem_nil, or_false, gz]); omega) | rfl)) only [↓gsd, gs, ev, Nat.reduceAdd, Nat.reduceEqDiff, oneC, Value.cells, Option.isNone, gt, ↓hk28, e0, e1, e11, e12, hh3]
    refine ⟨Fr.refl _ _, waitsR (hg3.frN (Fr.refl _ _).drew) hwf fun vy w4 hw4 hf4 _ => ⟨hf4, ?_⟩⟩
    have cw4 := cur w4
    have hz4 := hf4.size
    have hf34 : Fr [] w3 w4 := (Fr.refl _ _).drew.trans' hf4
    refine sameNums (sl_ints hw4) (hsw3.frN hf34) (by rw [sortI_len, List.length_map]; have := hwf.len; have := hwf.m; omega) fun w5 hf5 => ?_
    have cw5 := cur w5
    have hz5 := hf5.size
    simp (maxSteps := 4000000) (disch := (first | assumption | exact List.not_mem_nil | ((repeat (first | assumption | apply cur_alloc | apply cur_setB | apply cur_drew | apply cur_drewN)); done) | omega | (simp only [gz, Value.cells, oneC]; first | done | omega) | ((simp only [List.mem_cons, List.not_mem_nil, or_false, gz]); omega) | rfl)) only [↓gsd, gs, ev, Nat.reduceAdd, Nat.reduceEqDiff, oneC, Value.cells, Option.isNone, gt, ↓hk28, e0, e1, e11, e12, q12]
    refine ⟨hf4.trans' hf5, ?_⟩
    refine lacksR ((hg3.frN hf34).frN hf5) hwf fun w6 hf6 => ?_
    have cw6 := cur w6
    simp (maxSteps := 4000000) (disch := (first | assumption | exact List.not_mem_nil | ((repeat (first | assumption | apply cur_alloc | apply cur_setB | apply cur_drew | apply cur_drewN)); done) | omega | (simp only [gz, Value.cells, oneC]; first | done | omega) | ((simp only [List.mem_cons, List.not_mem_nil, or_false, gz]); omega) | rfl)) only [↓gsd, gs, ev, Nat.reduceAdd, Nat.reduceEqDiff, oneC, Value.cells, Option.isNone, gt, ↓hk28, e0, e1, e11, e12, q12]
    exact ⟨(hf4.trans' hf5).trans' hf6, hK _ (((hF3.trans' hf34).trans' hf5).trans' hf6)⟩
  by_cases hwe : g.ws.length = 0
  · have d : decide (0 < (g.ws.length : Int)) = false := decide_eq_false (by omega)
    have e : g.lacks = (0, 0) := by unfold GS.lacks; rw [if_pos hwe]
    simp (maxSteps := 4000000) (disch := (first | assumption | exact List.not_mem_nil | ((repeat (first | assumption | apply cur_alloc | apply cur_setB | apply cur_drew | apply cur_drewN)); done) | omega | (simp only [gz, Value.cells, oneC]; first | done | omega) | ((simp only [List.mem_cons, List.not_mem_nil, or_false, gz]); omega) | rfl)) only [↓gsd, gs, ev, Nat.reduceAdd, Nat.reduceEqDiff, oneC, Value.cells, Option.isNone, gt, ↓o28_0_eq, ↓o28_8_eq, ↓o28_9_eq, ↓o28_12_eq, ↓o28_10_eq, ↓o28_11_eq, ↓c28_8_s, ↓c28_7_s, ↓c28_6_s, ↓c28_4_s, ↓c28_3_s, ↓c28_2_s, ↓o28_1_eq, ↓o28_2_eq, ↓o28_3_eq, ↓c28_12_s, ↓c28_11_s, ↓o28_4_eq, ↓o28_5_eq, ↓o28_6_eq, ↓o28_7_eq, ↓c28_17_s, ↓c28_16_s, ↓c28_15_s, ↓c28_14_s, ↓c28_13_s, ↓c28_10_s, ↓c28_9_s, ↓c28_1_s, ↓c28_s, e0, e1, hvw, d, g12]
    rw [← hvw]
    exact fin _ _ (by simp (maxSteps := 4000000) (disch := (first | assumption | exact List.not_mem_nil | ((repeat (first | assumption | apply cur_alloc | apply cur_setB | apply cur_drew | apply cur_drewN)); done) | omega | (simp only [gz, Value.cells, oneC]; first | done | omega) | ((simp only [List.mem_cons, List.not_mem_nil, or_false, gz]); omega) | rfl)) only [↓gsd, gs, ev, Nat.reduceAdd, Nat.reduceEqDiff, oneC, Value.cells, Option.isNone, e0]) (by simp (maxSteps := 4000000) (disch := (first | assumption | exact List.not_mem_nil | ((repeat (first | assumption | apply cur_alloc | apply cur_setB | apply cur_drew | apply cur_drewN)); done) | omega | (simp only [gz, Value.cells, oneC]; first | done | omega) | ((simp only [List.mem_cons, List.not_mem_nil, or_false, gz]); omega) | rfl)) only [↓gsd, gs, ev, Nat.reduceAdd, Nat.reduceEqDiff, oneC, Value.cells, Option.isNone, e1]) (by simp (maxSteps := 4000000) (disch := (first | assumption | exact List.not_mem_nil | ((repeat (first | assumption | apply cur_alloc | apply cur_setB | apply cur_drew | apply cur_drewN)); done) | omega | (simp only [gz, Value.cells, oneC]; first | done | omega) | ((simp only [List.mem_cons, List.not_mem_nil, or_false, gz]); omega) | rfl)) only [↓gsd, gs, ev, Nat.reduceAdd, Nat.reduceEqDiff, oneC, Value.cells, Option.isNone]) (by simp (maxSteps := 4000000) (disch := (first | assumption | exact List.not_mem_nil | ((repeat (first | assumption | apply cur_alloc | apply cur_setB | apply cur_drew | apply cur_drewN)); done) | omega | (simp only [gz, Value.cells, oneC]; first | done | omega) | ((simp only [List.mem_cons, List.not_mem_nil, or_false, gz]); omega) | rfl)) only [↓gsd, gs, ev, Nat.reduceAdd, Nat.reduceEqDiff, oneC, Value.cells, Option.isNone]) (Fr.refl _ _) (by rw [e]; exact g12)
  · have d : decide (0 < (g.ws.length : Int)) = true := decide_eq_true (by omega)
    obtain ⟨y, hy⟩ : ∃ y, (sortI (g.ws.map (·.1)))[0]? = some y := by
      have := sortI_len (g.ws.map (·.1))
      rw [List.length_map] at this
      exact ⟨_, List.getElem?_eq_getElem (by omega)⟩
    have e : g.lacks = (g.at_ + 1, y) := by unfold GS.lacks; rw [if_neg hwe, List.head?_eq_getElem?, hy]; rfl
    obtain ⟨b1, o1, p1, ob1, hv1, hb1, _, _, hc1⟩ := (hsw.frN hf2).read (fun _ => rfl) 0 y hy
    have hd1 := fun orig K => hc1 0 (.int .i64 y) orig K rfl
    simp only [Nat.zero_mul, Nat.add_zero] at hd1
    rw [sortI_len, List.length_map] at hv1
    have i0 : (0 : Int) ≤ (0 : Int) := by omega
    have i1 : (0 : Int) < (g.ws.length : Int) := by omega
    have hh2 := (hr.frN (hf1.trans' hf2)).head
    rw [hvxf] at hh2
    have hne : b1 ≠ w1.heap.size := by
      rcases hw1.2 with ⟨h0, _⟩ | ⟨g', cap, cur', hv', _, hb', _⟩
      · rw [h0] at hv1; cases hv1
      · rw [hv'] at hv1
        cases hv1
        have := lt_of_get _ _ hb'
        omega
    have hne2 : rb ≠ w1.heap.size := by
      have := lt_of_get _ _ (hr.frN hf1).head
      omega
    simp (maxSteps := 4000000) (disch := (first | assumption | exact List.not_mem_nil | ((repeat (first | assumption | apply cur_alloc | apply cur_setB | apply cur_drew | apply cur_drewN)); done) | omega | (simp only [gz, Value.cells, oneC]; first | done | omega) | ((simp only [List.mem_cons, List.not_mem_nil, or_false, gz]); omega) | rfl)) only [↓gsd, gs, ev, Nat.reduceAdd, Nat.reduceEqDiff, oneC, Value.cells, Option.isNone, gt, ↓o28_0_eq, ↓o28_8_eq, ↓o28_9_eq, ↓o28_12_eq, ↓o28_10_eq, ↓o28_11_eq, ↓c28_8_s, ↓c28_7_s, ↓c28_6_s, ↓c28_4_s, ↓c28_3_s, ↓c28_2_s, ↓o28_1_eq, ↓o28_2_eq, ↓o28_3_eq, ↓c28_12_s, ↓c28_11_s, ↓o28_4_eq, ↓o28_5_eq, ↓o28_6_eq, ↓o28_7_eq, ↓c28_17_s, ↓c28_16_s, ↓c28_15_s, ↓c28_14_s, ↓c28_13_s, ↓c28_10_s, ↓c28_9_s, ↓c28_1_s, ↓c28_s, e0, e1, hv1, d, g12]
    refine draw_intro [w1.heap.size] ?_
    simp (maxSteps := 4000000) (disch := (first | assumption | exact List.not_mem_nil | ((repeat (first | assumption | apply cur_alloc | apply cur_setB | apply cur_drew | apply cur_drewN)); done) | omega | (simp only [gz, Value.cells, oneC]; first | done | omega) | ((simp only [List.mem_cons, List.not_mem_nil, or_false, gz]); omega) | rfl)) only [↓gsd, gs, ev, Nat.reduceAdd, Nat.reduceEqDiff, oneC, Value.cells, Option.isNone, gt, ↓o28_0_eq, ↓o28_8_eq, ↓o28_9_eq, ↓o28_12_eq, ↓o28_10_eq, ↓o28_11_eq, ↓c28_8_s, ↓c28_7_s, ↓c28_6_s, ↓c28_4_s, ↓c28_3_s, ↓c28_2_s, ↓o28_1_eq, ↓o28_2_eq, ↓o28_3_eq, ↓c28_12_s, ↓c28_11_s, ↓o28_4_eq, ↓o28_5_eq, ↓o28_6_eq, ↓o28_7_eq, ↓c28_17_s, ↓c28_16_s, ↓c28_15_s, ↓c28_14_s, ↓c28_13_s, ↓c28_10_s, ↓c28_9_s, ↓c28_1_s, ↓c28_s, e0, e1, hv1, hh2, i0, i1, Int.toNat_zero, Nat.zero_mul, Nat.add_zero, hb1, hd1, g12]
    rw [← hv1]
    exact fin _ _ (by simp (maxSteps := 4000000) (disch := (first | assumption | exact List.not_mem_nil | ((repeat (first | assumption | apply cur_alloc | apply cur_setB | apply cur_drew | apply cur_drewN)); done) | omega | (simp only [gz, Value.cells, oneC]; first | done | omega) | ((simp only [List.mem_cons, List.not_mem_nil, or_false, gz]); omega) | rfl)) only [↓gsd, gs, ev, Nat.reduceAdd, Nat.reduceEqDiff, oneC, Value.cells, Option.isNone, e0]) (by simp (maxSteps := 4000000) (disch := (first | assumption | exact List.not_mem_nil | ((repeat (first | assumption | apply cur_alloc | apply cur_setB | apply cur_drew | apply cur_drewN)); done) | omega | (simp only [gz, Value.cells, oneC]; first | done | omega) | ((simp only [List.mem_cons, List.not_mem_nil, or_false, gz]); omega) | rfl)) only [↓gsd, gs, ev, Nat.reduceAdd, Nat.reduceEqDiff, oneC, Value.cells, Option.isNone, e1]) (by simp (maxSteps := 4000000) (disch := (first | assumption | exact List.not_mem_nil | ((repeat (first | assumption | apply cur_alloc | apply cur_setB | apply cur_drew | apply cur_drewN)); done) | omega | (simp only [gz, Value.cells, oneC]; first | done | omega) | ((simp only [List.mem_cons, List.not_mem_nil, or_false, gz]); omega) | rfl)) only [↓gsd, gs, ev, Nat.reduceAdd, Nat.reduceEqDiff, oneC, Value.cells, Option.isNone]) (by simp (maxSteps := 4000000) (disch := (first | assumption | exact List.not_mem_nil | ((repeat (first | assumption | apply cur_alloc | apply cur_setB | apply cur_drew | apply cur_drewN)); done) | omega | (simp only [gz, Value.cells, oneC]; first | done | omega) | ((simp only [List.mem_cons, List.not_mem_nil, or_false, gz]); omega) | rfl)) only [↓gsd, gs, ev, Nat.reduceAdd, Nat.reduceEqDiff, oneC, Value.cells, Option.isNone]) (by (repeat (first | exact Fr.refl _ _ | assumption | with_reducible apply Fr.alloc | with_reducible apply Fr.drew | with_reducible refine Fr.setB ?_ _ _ (.inr (by first | omega | (simp only [gz]; omega))) | with_reducible refine Fr.setB ?_ _ _ (.inl (by first | assumption | simp)) | with_reducible refine Fr.trans' ?_ (by assumption)))) (by rw [e]; simp (maxSteps := 4000000) (disch := (first | assumption | exact List.not_mem_nil | ((repeat (first | assumption | apply cur_alloc | apply cur_setB | apply cur_drew | apply cur_drewN)); done) | omega | (simp only [gz, Value.cells, oneC]; first | done | omega) | ((simp only [List.mem_cons, List.not_mem_nil, or_false, gz]); omega) | rfl)) only [↓gsd, gs, ev, Nat.reduceAdd, Nat.reduceEqDiff, oneC, Value.cells, Option.isNone, g12])
end Go.Proofs.Ytenokheiindfkaa
