/- The fixed part of the gap's laws. -/
import Derived.Test.YtenokheiindfkaaF1
set_option linter.unusedVariables false
set_option linter.unusedSimpArgs false
set_option maxRecDepth 10000
namespace Go.Proofs.Ytenokheiindfkaa
open Go.VW
theorem RecK.fr {w w' : World} {r : Rec} {ks : List ByteArray} (h : RecK w r ks) {M : List Nat} (hf : Fr M w w') (hM : ∀ x ∈ M, ∀ a, r.a = some a → a.block ≠ x) : RecK w' r ks :=
  SlOf.fr h hf fun x hx a n c e => by
    simp only [Value.slice.injEq] at e
    exact hM x hx a e.1
theorem Own.frN {k n : Nat} {e : TypeId} {w w' : World} {v : Value} {cs : List Value} (h : Own k e w v n cs) (hf : Fr [] w w') : Own k e w' v n cs := h.fr (M := []) hf (by simp)
theorem fxP1 (r : Rec) : (GS.new 4 2 : GS Rec).put 6 r = (([], false), ⟨4, 2, [(6, r)]⟩) := by rfl
theorem fxP2 (r q : Rec) : (⟨4, 2, [(6, r)]⟩ : GS Rec).put 5 q = (([q, r], false), ⟨6, 2, []⟩) := by rfl
theorem fxL (r : Rec) : (⟨4, 2, [(6, r)]⟩ : GS Rec).lacks = (5, 6) := by simp [GS.lacks, sortI]
theorem fxW (r : Rec) : (⟨4, 2, [(6, r)]⟩ : GS Rec).WF := ⟨by show (0 : Int) ≤ 4; omega, by show (4 : Int) ≤ _; omega, by show 2 ≤ 256; omega, by simp, by simp, by simp⟩
set_option maxHeartbeats 8000000 in
theorem fixedG {w : World} {K : Value → World → Prop} (hK : ∀ w', Fr [] w w' → K (.bool true) w') : CallsN Try.prog 25 [] w K := by
  have cw := cur w
  refine call25 ?_
  simp (maxSteps := 4000000) (disch := (first | assumption | exact List.not_mem_nil | ((repeat (first | assumption | apply cur_alloc | apply cur_setB | apply cur_drew | apply cur_drewN)); done) | omega | (simp only [gz, Value.cells, oneC]; first | done | omega) | ((simp only [List.mem_cons, List.not_mem_nil, or_false, gz]); omega) | rfl)) only [↓gsd, gs, ev, Nat.reduceAdd, Nat.reduceEqDiff, oneC, Value.cells, Option.isNone, gt, ↓hk25]
  refine newR fun gb gm w1 hf1 hgb hgm h1 => ?_
  have cw1 := cur w1
  have hz1 := hf1.size
  have hlt1 := h1.lt
  simp (maxSteps := 4000000) (disch := (first | assumption | exact List.not_mem_nil | ((repeat (first | assumption | apply cur_alloc | apply cur_setB | apply cur_drew | apply cur_drewN)); done) | omega | (simp only [gz, Value.cells, oneC]; first | done | omega) | ((simp only [List.mem_cons, List.not_mem_nil, or_false, gz]); omega) | rfl)) only [↓gsd, gs, ev, Nat.reduceAdd, Nat.reduceEqDiff, oneC, Value.cells, Option.isNone, gt, ↓hk25]
  refine one_spec fun b6 w2 hf2 hb6 hb6' hr6 => ?_
  have cw2 := cur w2
  have hz2 := hf2.size
  refine putR (h1.frN hf2) (GS.new_wf _ _) fun vo w3 hown hfr hf3 h3 => ?_
  have cw3 := cur w3
  have hz3 := hf3.size
  rw [fxP1] at hown h3 ⊢
  obtain ⟨oa, oc, hvo⟩ := hown.sl.form
  simp (maxSteps := 4000000) (disch := (first | assumption | exact List.not_mem_nil | ((repeat (first | assumption | apply cur_alloc | apply cur_setB | apply cur_drew | apply cur_drewN)); done) | omega | (simp only [gz, Value.cells, oneC]; first | done | omega) | ((simp only [List.mem_cons, List.not_mem_nil, or_false, gz]); omega) | rfl)) only [↓gsd, gs, ev, Nat.reduceAdd, Nat.reduceEqDiff, oneC, Value.cells, Option.isNone, gt, ↓hk25]
  refine lacksR h3 (fxW _) fun w4 hf4 => ?_
  have cw4 := cur w4
  have hz4 := hf4.size
  rw [fxL]
  simp (maxSteps := 4000000) (disch := (first | assumption | exact List.not_mem_nil | ((repeat (first | assumption | apply cur_alloc | apply cur_setB | apply cur_drew | apply cur_drewN)); done) | omega | (simp only [gz, Value.cells, oneC]; first | done | omega) | ((simp only [List.mem_cons, List.not_mem_nil, or_false, gz]); omega) | rfl)) only [↓gsd, gs, ev, Nat.reduceAdd, Nat.reduceEqDiff, oneC, Value.cells, Option.isNone, gt, ↓hk25]
  generalize hW : World.alloc w4 _ = w5
  have hf5 : Fr [] w4 w5 := by rw [← hW]; (repeat (first | exact Fr.refl _ _ | assumption | with_reducible apply Fr.alloc | with_reducible apply Fr.drew | with_reducible refine Fr.setB ?_ _ _ (.inr (by first | omega | (simp only [gz]; omega))) | with_reducible refine Fr.setB ?_ _ _ (.inl (by first | assumption | simp)) | with_reducible refine Fr.trans' ?_ (by assumption)))
  have hz5 : w5.heap.size = w4.heap.size + 1 := by rw [← hW]; simp only [gz]
  have g4 : w5.heap[w4.heap.size]? = some (.cells ([.int .i64 5, .int .i64 6] : List Value).toArray 86 (0, 0)) := by rw [← hW]; exact get_alloc_new _ _
  clear hW
  have cw5 := cur w5
  refine one_spec fun b5 w6 hf6 hb5 hb5' hr5 => ?_
  have cw6 := cur w6
  have hz6 := hf6.size
  refine putR (((h3.frN hf4).frN hf5).frN hf6) (fxW _) fun vp w7 hown7 hfr7 hf7 h7 => ?_
  have cw7 := cur w7
  have hz7 := hf7.size
  rw [fxP2] at hown7 h7 ⊢
  have hlt7 := h7.lt
  replace g4 := hf7.get (hf6.getN g4) (by simp; omega)
  have hlt4 := lt_of_get _ _ g4
  have hr6' : RecK w7 ⟨6, some ⟨b6, 0, none⟩, 1, 1⟩ _ := ((((hr6.fr hf3 (by intro x hx a ha; simp at hx ha; subst ha; simp only; omega)).frN hf4).frN hf5).frN hf6).fr hf7 (by intro x hx a ha; simp at hx ha; subst ha; simp only; omega)
  have hr5' : RecK w7 ⟨5, some ⟨b5, 0, none⟩, 1, 1⟩ _ := hr5.fr hf7 (by intro x hx a ha; simp at hx ha; subst ha; simp only; omega)
  simp (maxSteps := 4000000) (disch := (first | assumption | exact List.not_mem_nil | ((repeat (first | assumption | apply cur_alloc | apply cur_setB | apply cur_drew | apply cur_drewN)); done) | omega | (simp only [gz, Value.cells, oneC]; first | done | omega) | ((simp only [List.mem_cons, List.not_mem_nil, or_false, gz]); omega) | rfl)) only [↓gsd, gs, ev, Nat.reduceAdd, Nat.reduceEqDiff, oneC, Value.cells, Option.isNone, gt, ↓hk25, hvo, g4, Int.natCast_zero]
  refine one_spec fun b5' w8 hf8 hb8 hb8' hs5 => ?_
  have cw8 := cur w8
  have hz8 := hf8.size
  refine one_spec fun b6' w9 hf9 hb9 hb9' hs6 => ?_
  have cw9 := cur w9
  have hz9 := hf9.size
  simp (maxSteps := 4000000) (disch := (first | assumption | exact List.not_mem_nil | ((repeat (first | assumption | apply cur_alloc | apply cur_setB | apply cur_drew | apply cur_drewN)); done) | omega | (simp only [gz, Value.cells, oneC]; first | done | omega) | ((simp only [List.mem_cons, List.not_mem_nil, or_false, gz]); omega) | rfl)) only [↓gsd, gs, ev, Nat.reduceAdd, Nat.reduceEqDiff, oneC, Value.cells, Option.isNone, gt, ↓hk25]
  generalize hW : World.alloc w9 _ = w10
  have hf10 : Fr [] w9 w10 := by rw [← hW]; (repeat (first | exact Fr.refl _ _ | assumption | with_reducible apply Fr.alloc | with_reducible apply Fr.drew | with_reducible refine Fr.setB ?_ _ _ (.inr (by first | omega | (simp only [gz]; omega))) | with_reducible refine Fr.setB ?_ _ _ (.inl (by first | assumption | simp)) | with_reducible refine Fr.trans' ?_ (by assumption)))
  have hz10 : w10.heap.size = w9.heap.size + 1 := by rw [← hW]; simp only [gz]
  have hsl : SlOf 2 encR w10 (.slice (some ⟨w9.heap.size, 0, none⟩) 2 2) [⟨5, some ⟨b5', 0, none⟩, 1, 1⟩, ⟨6, some ⟨b6', 0, none⟩, 1, 1⟩] := by
    rw [← hW]; exact ⟨rfl, .inr ⟨_, 0, 2, _, 54, (0, 0), rfl, get_alloc_new _ _, rfl⟩⟩
  clear hW
  have cw10 := cur w10
  have hown10 := Own.frN (Own.frN (Own.frN hown7 hf8) hf9) hf10
  refine sameAll_true (rs := [⟨5, some ⟨b5, 0, none⟩, 1, 1⟩, ⟨6, some ⟨b6, 0, none⟩, 1, 1⟩]) hown10.sl hsl rfl (by simp) ?_ fun w11 hf11 => ?_
  · intro i r r' h1 h2
    match i with
    | 0 =>
      simp at h1 h2; subst h1; subst h2
      exact ⟨rfl, _, ((hr5'.frN hf8).frN hf9).frN hf10, (hs5.frN hf9).frN hf10, by simp⟩
    | 1 =>
      simp at h1 h2; subst h1; subst h2
      exact ⟨rfl, _, ((hr6'.frN hf8).frN hf9).frN hf10, hs6.frN hf10, by simp⟩
    | i + 2 => simp at h1
  have cw11 := cur w11
  have hz11 := hf11.size
  simp (maxSteps := 4000000) (disch := (first | assumption | exact List.not_mem_nil | ((repeat (first | assumption | apply cur_alloc | apply cur_setB | apply cur_drew | apply cur_drewN)); done) | omega | (simp only [gz, Value.cells, oneC]; first | done | omega) | ((simp only [List.mem_cons, List.not_mem_nil, or_false, gz]); omega) | rfl)) only [↓gsd, gs, ev, Nat.reduceAdd, Nat.reduceEqDiff, oneC, Value.cells, Option.isNone, gt, ↓hk25]
  refine atR ((((h7.frN hf8).frN hf9).frN hf10).frN hf11) ?_
  simp (maxSteps := 4000000) (disch := (first | assumption | exact List.not_mem_nil | ((repeat (first | assumption | apply cur_alloc | apply cur_setB | apply cur_drew | apply cur_drewN)); done) | omega | (simp only [gz, Value.cells, oneC]; first | done | omega) | ((simp only [List.mem_cons, List.not_mem_nil, or_false, gz]); omega) | rfl)) only [↓gsd, gs, ev, Nat.reduceAdd, Nat.reduceEqDiff, oneC, Value.cells, Option.isNone, gt, ↓hk25]
  refine hK _ ?_
  have hA : Fr [] w w3 := (hf1.trans' hf2).trans hf3 fun x hx => by simp at hx; exact .inr (by omega)
  have hB : Fr [] w w7 := (((hA.trans' hf4).trans' hf5).trans' hf6).trans hf7 fun x hx => by simp at hx; exact .inr (by omega)
  exact (((hB.trans' hf8).trans' hf9).trans' hf10).trans' hf11
end Go.Proofs.Ytenokheiindfkaa
