/- The fixed part of the stream's laws. -/
import Derived.Test.YtenokheiindfkabD6
import Derived.Test.YtenokheiindfkabH3
set_option linter.unusedVariables false
set_option linter.unusedSimpArgs false
set_option maxRecDepth 10000
namespace Go.Proofs.Ytenokheiindfkab
open Go.VW
theorem sl_lit {w : World} (ks : Ks) : SlOf 1 encS (w.alloc (.cells (cellsOf encS ks).toArray 9 (0, 0))) (.slice (some ⟨w.heap.size, 0, none⟩) ks.length ks.length) ks := by
  have hl := cellsOf_length encS_len ks
  exact ⟨hl, .inr ⟨w.heap.size, 0, ks.length, _, 9, (0, 0), rfl, get_alloc_new _ _, by simp only [List.drop_zero]; exact List.take_of_length_le (by omega)⟩⟩
theorem chkK_ab : chkK [⟨#[97]⟩, ⟨#[98]⟩] = 0 := by decide
theorem chkK_b : chkK [⟨#[98]⟩] = 0 := by decide
theorem fx1 : appL [] [⟨#[97]⟩, ⟨#[98]⟩] = ((1, 0), [[⟨#[97]⟩, ⟨#[98]⟩]]) := by rw [appL_ok chkK_ab (by decide)]; rfl
theorem fx2 : appL [[⟨#[97]⟩, ⟨#[98]⟩]] [⟨#[98]⟩] = ((2, 0), [[⟨#[97]⟩, ⟨#[98]⟩], [⟨#[98]⟩]]) := by rw [appL_ok chkK_b (by decide)]; rfl
theorem fxF : FirstP [[⟨#[97]⟩, ⟨#[98]⟩], [⟨#[98]⟩]] ⟨#[98]⟩ 1 (some 2) := by
  refine ⟨by decide, ⟨by decide, [⟨#[98]⟩], rfl, by simp⟩, fun m h1 h2 => ?_⟩
  omega
set_option maxHeartbeats 8000000 in
theorem fixed_spec {w : World} {K : Value → World → Prop} (hK : ∀ w', Fr [] w w' → K (.bool true) w') : CallsN Try.prog 8 [] w K := by
  have cw := cur w
  refine call8 ?_
  simp (maxSteps := 4000000) (disch := (first | assumption | exact List.not_mem_nil | exact Fr.refl _ _ | ((repeat (first | assumption | apply cur_alloc | apply cur_setB | apply cur_drew | apply cur_drewN)); done) | omega | (simp only [gz, Value.cells, oneC]; first | done | omega) | ((simp only [List.mem_cons, List.not_mem_nil, or_false, gz]); omega) | rfl)) only [↓gsd, gs, ev, Nat.reduceAdd, Nat.reduceEqDiff, oneC, Value.cells, Option.isNone, gt, ↓hk8]
  refine new_log fun lb w1 hf1 hlb h1 => ?_
  have cw1 := cur w1
  have hz1 := hf1.size
  simp (maxSteps := 4000000) (disch := (first | assumption | exact List.not_mem_nil | exact Fr.refl _ _ | ((repeat (first | assumption | apply cur_alloc | apply cur_setB | apply cur_drew | apply cur_drewN)); done) | omega | (simp only [gz, Value.cells, oneC]; first | done | omega) | ((simp only [List.mem_cons, List.not_mem_nil, or_false, gz]); omega) | rfl)) only [↓gsd, gs, ev, Nat.reduceAdd, Nat.reduceEqDiff, oneC, Value.cells, Option.isNone, gt, ↓hk8]
  generalize hW : World.alloc w1 _ = w2
  have hf2 : Fr [] w1 w2 := by rw [← hW]; (repeat (first | exact Fr.refl _ _ | assumption | with_reducible apply Fr.alloc | with_reducible apply Fr.drew | with_reducible refine Fr.setB ?_ _ _ (.inr (by first | omega | (simp only [gz]; omega))) | with_reducible refine Fr.setB ?_ _ _ (.inl (by first | assumption | simp)) | with_reducible refine Fr.trans' ?_ (by assumption)))
  have hz2 : w2.heap.size = w1.heap.size + 1 := by rw [← hW]; simp only [gz]
  have hs2 : SlOf 1 encS w2 (.slice (some ⟨w1.heap.size, 0, none⟩) 2 2) [⟨#[97]⟩, ⟨#[98]⟩] := by rw [← hW]; exact sl_lit (w := w1) [⟨#[97]⟩, ⟨#[98]⟩]
  clear hW
  have cw2 := cur w2
  refine append_log (h1.frN hf2) hs2 (by decide) fun w3 W3 R3 h3 hf3 hW3 hR3 => ?_
  rw [fx1] at h3 ⊢
  have cw3 := cur w3
  have hz3 := hf3.size
  have hF3 : Fr [] w w3 := (hf1.trans' hf2).trans hf3 fun x hx => by simp at hx; exact .inr (by omega)
  have hW3' : ∀ x ∈ W3, w.heap.size ≤ x := fun x hx => by rcases hW3 x hx with h | h; · simp at h; omega
                                                          · omega
  simp (maxSteps := 4000000) (disch := (first | assumption | exact List.not_mem_nil | exact Fr.refl _ _ | ((repeat (first | assumption | apply cur_alloc | apply cur_setB | apply cur_drew | apply cur_drewN)); done) | omega | (simp only [gz, Value.cells, oneC]; first | done | omega) | ((simp only [List.mem_cons, List.not_mem_nil, or_false, gz]); omega) | rfl)) only [↓gsd, gs, ev, Nat.reduceAdd, Nat.reduceEqDiff, oneC, Value.cells, Option.isNone, gt, ↓hk8]
  generalize hW : World.alloc w3 _ = w4
  have hf4 : Fr [] w3 w4 := by rw [← hW]; (repeat (first | exact Fr.refl _ _ | assumption | with_reducible apply Fr.alloc | with_reducible apply Fr.drew | with_reducible refine Fr.setB ?_ _ _ (.inr (by first | omega | (simp only [gz]; omega))) | with_reducible refine Fr.setB ?_ _ _ (.inl (by first | assumption | simp)) | with_reducible refine Fr.trans' ?_ (by assumption)))
  have hz4 : w4.heap.size = w3.heap.size + 1 := by rw [← hW]; simp only [gz]
  have hs4 : SlOf 1 encS w4 (.slice (some ⟨w3.heap.size, 0, none⟩) 1 1) [⟨#[98]⟩] := by rw [← hW]; exact sl_lit (w := w3) [⟨#[98]⟩]
  clear hW
  have cw4 := cur w4
  refine append_log (h3.frN hf4) hs4 (by decide) fun w5 W5 R5 h5 hf5 hW5 hR5 => ?_
  rw [fx2] at h5 ⊢
  have cw5 := cur w5
  have hz5 := hf5.size
  have hF5 : Fr [] w w5 := (hF3.trans' hf4).trans hf5 fun x hx => .inr (hW3' x hx)
  simp (maxSteps := 4000000) (disch := (first | assumption | exact List.not_mem_nil | exact Fr.refl _ _ | ((repeat (first | assumption | apply cur_alloc | apply cur_setB | apply cur_drew | apply cur_drewN)); done) | omega | (simp only [gz, Value.cells, oneC]; first | done | omega) | ((simp only [List.mem_cons, List.not_mem_nil, or_false, gz]); omega) | rfl)) only [↓gsd, gs, ev, Nat.reduceAdd, Nat.reduceEqDiff, oneC, Value.cells, Option.isNone, gt, ↓hk8]
  refine first_log h5 fun r w6 hr hf6 => ?_
  have cw6 := cur w6
  have hz6 := hf6.size
  rw [FirstP.uniq hr fxF]
  unfold firstV
  simp (maxSteps := 4000000) (disch := (first | assumption | exact List.not_mem_nil | exact Fr.refl _ _ | ((repeat (first | assumption | apply cur_alloc | apply cur_setB | apply cur_drew | apply cur_drewN)); done) | omega | (simp only [gz, Value.cells, oneC]; first | done | omega) | ((simp only [List.mem_cons, List.not_mem_nil, or_false, gz]); omega) | rfl)) only [↓gsd, gs, ev, Nat.reduceAdd, Nat.reduceEqDiff, oneC, Value.cells, Option.isNone, gt, ↓hk8]
  have h6 := h5.frN hf6
  refine get_log h6 (fun e => by cases e) fun ks r w7 hg hf7 hrc => ?_
  have hks : ks = [⟨#[97]⟩, ⟨#[98]⟩] := by cases hg; rfl
  subst hks
  have cw7 := cur w7
  have hz7 := hf7.size
  unfold Rc.v encRc
  obtain ⟨rn, ra, rl, rc⟩ := r
  obtain ⟨q1, q2, q3⟩ := hrc
  obtain ⟨b0, off, cap, o, hv, hob, hbl, _, hcell⟩ := (show SlOf 1 encS w7 (Rc.kv ⟨rn, ra, rl, rc⟩) [⟨#[97]⟩, ⟨#[98]⟩] from q2.sl).read encS_len 1 ⟨#[98]⟩ rfl
  have hc0 := fun orig K => hcell 0 (.string ⟨#[98]⟩) orig K rfl
  simp only [Rc.kv, Value.slice.injEq] at hv
  obtain ⟨rfl, rfl, rfl⟩ := hv
  simp only [Nat.mul_one, Nat.add_zero] at hc0
  have d22 : decide (((2 : Nat) : Int) = 2) = true := rfl
  have i0 : (0 : Int) ≤ 1 := by decide
  have i1 : (1 : Int) < ((2 : Nat) : Int) := by decide
  have t1 : Int.toNat 1 = 1 := rfl
  simp (maxSteps := 4000000) (disch := (first | assumption | exact List.not_mem_nil | exact Fr.refl _ _ | ((repeat (first | assumption | apply cur_alloc | apply cur_setB | apply cur_drew | apply cur_drewN)); done) | omega | (simp only [gz, Value.cells, oneC]; first | done | omega) | ((simp only [List.mem_cons, List.not_mem_nil, or_false, gz]); omega) | rfl)) only [↓gsd, gs, ev, Nat.reduceAdd, Nat.reduceEqDiff, oneC, Value.cells, Option.isNone, gt, ↓hk8, List.length_cons, List.length_nil, d22, i0, i1, t1, Nat.mul_one, hob, hc0]
  refine last_spec ((h6.frN hf7).frN ((Fr.refl _ _).alloc _)) ?_
  simp (maxSteps := 4000000) (disch := (first | assumption | exact List.not_mem_nil | exact Fr.refl _ _ | ((repeat (first | assumption | apply cur_alloc | apply cur_setB | apply cur_drew | apply cur_drewN)); done) | omega | (simp only [gz, Value.cells, oneC]; first | done | omega) | ((simp only [List.mem_cons, List.not_mem_nil, or_false, gz]); omega) | rfl)) only [↓gsd, gs, ev, Nat.reduceAdd, Nat.reduceEqDiff, oneC, Value.cells, Option.isNone, gt, ↓hk8, List.length_cons, List.length_nil, d22]
  exact hK _ (((hF5.trans' hf6).trans' hf7).trans' ((Fr.refl _ _).alloc _))
end Go.Proofs.Ytenokheiindfkab
