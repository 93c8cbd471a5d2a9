/- The fixed part of the laws. -/
import Derived.Test.YtenokheiindfkaaS7
set_option linter.unusedVariables false
set_option linter.unusedSimpArgs false
set_option maxRecDepth 10000
namespace Go.Proofs.Ytenokheiindfkaa
open Go.VW
def kA : ByteArray := ⟨#[97]⟩
def kB : ByteArray := ⟨#[98]⟩
def ws1 : List Wr := [⟨⟨#[97]⟩, true, ⟨#[49]⟩⟩]
def ws2 : List Wr := [⟨⟨#[97]⟩, true, ⟨#[50]⟩⟩, ⟨⟨#[98]⟩, true, ⟨#[120]⟩⟩]
def sF0 : St := St.new 2
def sF1 : St := (sF0.commit ws1).2
def sF2 : St := (sF1.commit ws2).2
theorem fx1 : (sF0.commit ws1).1 = (1, 0) := by kernel_rfl
theorem fx2 : (sF1.commit ws2).1 = (2, 0) := by kernel_rfl
theorem fx3 : sF2.read ⟨#[97]⟩ 1 = (⟨⟨#[97]⟩, true, ⟨#[49]⟩, 1, 2⟩, 0) := by kernel_rfl
theorem fx4 : (sF2.read ⟨#[97]⟩ 3).2 = 21 := by kernel_rfl
theorem fx5 : sF2.last = 2 := by kernel_rfl
theorem Fr.new2 {w w1 w2 : World} {b bm : Nat} (h : Fr [] w w1) (h2 : Fr [b, bm] w1 w2) (hb : w.heap.size ≤ b) (hm : w.heap.size ≤ bm) : Fr [] w w2 := h.trans h2 fun x hx => .inr (by simp at hx; omega)
theorem offV_new {x n c b : Nat} (h : b ≠ x) : offV (.slice (some ⟨x, 0, none⟩) n c) b := fun a n' c' hs he => by
  simp only [Value.slice.injEq, Option.some.injEq] at hs
  obtain ⟨rfl, _⟩ := hs
  exact h he.symm
set_option maxHeartbeats 4000000 in
theorem fixed_spec {w : World} {K : Value → World → Prop} (hK : ∀ w', Fr [] w w' → K (.bool true) w') : CallsN Try.prog 15 [] w K := by
  have cw := cur w
  refine call15 ?_
  simp (maxSteps := 4000000) (disch := (first | assumption | exact List.not_mem_nil | exact Fr.refl _ _ | ((repeat (first | assumption | apply cur_alloc | apply cur_setB | apply cur_drew | apply cur_drewN)); done) | omega | (simp only [gz, Value.cells, oneC]; first | done | omega) | ((simp only [List.mem_cons, List.not_mem_nil, or_false, gz]); omega) | rfl)) only [↓gsd, gs, ev, Nat.reduceAdd, Nat.reduceEqDiff, oneC, Value.cells, Option.isNone, gt, ↓hk15]
  refine new_spec fun b bm w1 hf1 hb hbm h0 => ?_
  have cw1 := cur w1
  have hz1 := hf1.size
  simp (maxSteps := 4000000) (disch := (first | assumption | exact List.not_mem_nil | exact Fr.refl _ _ | ((repeat (first | assumption | apply cur_alloc | apply cur_setB | apply cur_drew | apply cur_drewN)); done) | omega | (simp only [gz, Value.cells, oneC]; first | done | omega) | ((simp only [List.mem_cons, List.not_mem_nil, or_false, gz]); omega) | rfl)) only [↓gsd, gs, ev, Nat.reduceAdd, Nat.reduceEqDiff, oneC, Value.cells, Option.isNone, gt, ↓hk15]
  refine put_spec fun w2 hf2 => ?_
  have cw2 := cur w2
  have hz2 := hf2.size
  unfold encWr
  simp (maxSteps := 4000000) (disch := (first | assumption | exact List.not_mem_nil | exact Fr.refl _ _ | ((repeat (first | assumption | apply cur_alloc | apply cur_setB | apply cur_drew | apply cur_drewN)); done) | omega | (simp only [gz, Value.cells, oneC]; first | done | omega) | ((simp only [List.mem_cons, List.not_mem_nil, or_false, gz]); omega) | rfl)) only [↓gsd, gs, ev, Nat.reduceAdd, Nat.reduceEqDiff, oneC, Value.cells, Option.isNone, gt, ↓hk15]
  have hlt := h0.lt
  generalize hW : World.alloc w2 _ = w3
  have hf3 : Fr [] w2 w3 := by rw [← hW]; (repeat (first | exact Fr.refl _ _ | assumption | with_reducible apply Fr.alloc | with_reducible apply Fr.drew | with_reducible refine Fr.setB ?_ _ _ (.inr (by first | omega | (simp only [gz]; omega))) | with_reducible refine Fr.setB ?_ _ _ (.inl (by first | assumption | simp)) | with_reducible refine Fr.trans' ?_ (by assumption)))
  have hz3 := hf3.size
  have hsl : SlOf 3 encWr w3 (.slice (some ⟨w2.heap.size, 0, none⟩) 1 1) ws1 := by rw [← hW]; exact ⟨rfl, .inr ⟨_, 0, 1, _, 44, (0, 0), rfl, get_alloc_new _ _, rfl⟩⟩
  clear hW
  have cw3 := cur w3
  refine commit_spec ((h0.frN hf2).frN hf3) (St.new_wf 2) (fun w' hf => hsl.fr hf (by intro x hx; simp at hx; rcases hx with rfl | rfl <;> exact offV_new (by omega))) fun w4 hf4 h4 => ?_
  have cw4 := cur w4
  have hz4 := hf4.size
  rw [show (St.new 2).commit ws1 = (sF0.commit ws1) from rfl, fx1]
  change StoreAt w4 b bm sF1 at h4
  have hwf1 : sF1.WF := St.WF.commit (St.new_wf 2) ws1
  simp (maxSteps := 4000000) (disch := (first | assumption | exact List.not_mem_nil | exact Fr.refl _ _ | ((repeat (first | assumption | apply cur_alloc | apply cur_setB | apply cur_drew | apply cur_drewN)); done) | omega | (simp only [gz, Value.cells, oneC]; first | done | omega) | ((simp only [List.mem_cons, List.not_mem_nil, or_false, gz]); omega) | rfl)) only [↓gsd, gs, ev, Nat.reduceAdd, Nat.reduceEqDiff, oneC, Value.cells, Option.isNone, gt, ↓hk15]
  refine put_spec fun w5 hf5 => ?_
  have cw5 := cur w5
  have hz5 := hf5.size
  unfold encWr
  simp (maxSteps := 4000000) (disch := (first | assumption | exact List.not_mem_nil | exact Fr.refl _ _ | ((repeat (first | assumption | apply cur_alloc | apply cur_setB | apply cur_drew | apply cur_drewN)); done) | omega | (simp only [gz, Value.cells, oneC]; first | done | omega) | ((simp only [List.mem_cons, List.not_mem_nil, or_false, gz]); omega) | rfl)) only [↓gsd, gs, ev, Nat.reduceAdd, Nat.reduceEqDiff, oneC, Value.cells, Option.isNone, gt, ↓hk15]
  refine put_spec fun w6 hf6 => ?_
  have cw6 := cur w6
  have hz6 := hf6.size
  unfold encWr
  simp (maxSteps := 4000000) (disch := (first | assumption | exact List.not_mem_nil | exact Fr.refl _ _ | ((repeat (first | assumption | apply cur_alloc | apply cur_setB | apply cur_drew | apply cur_drewN)); done) | omega | (simp only [gz, Value.cells, oneC]; first | done | omega) | ((simp only [List.mem_cons, List.not_mem_nil, or_false, gz]); omega) | rfl)) only [↓gsd, gs, ev, Nat.reduceAdd, Nat.reduceEqDiff, oneC, Value.cells, Option.isNone, gt, ↓hk15]
  generalize hW : World.alloc w6 _ = w7
  have hf7 : Fr [] w6 w7 := by rw [← hW]; (repeat (first | exact Fr.refl _ _ | assumption | with_reducible apply Fr.alloc | with_reducible apply Fr.drew | with_reducible refine Fr.setB ?_ _ _ (.inr (by first | omega | (simp only [gz]; omega))) | with_reducible refine Fr.setB ?_ _ _ (.inl (by first | assumption | simp)) | with_reducible refine Fr.trans' ?_ (by assumption)))
  have hz7 := hf7.size
  have hsl : SlOf 3 encWr w7 (.slice (some ⟨w6.heap.size, 0, none⟩) 2 2) ws2 := by rw [← hW]; exact ⟨rfl, .inr ⟨_, 0, 2, _, 44, (0, 0), rfl, get_alloc_new _ _, rfl⟩⟩
  clear hW
  have cw7 := cur w7
  refine commit_spec (((h4.frN hf5).frN hf6).frN hf7) hwf1 (fun w' hf => hsl.fr hf (by intro x hx; simp at hx; rcases hx with rfl | rfl <;> exact offV_new (by omega))) fun w8 hf8 h8 => ?_
  have cw8 := cur w8
  have hz8 := hf8.size
  rw [fx2]
  change StoreAt w8 b bm sF2 at h8
  have hwf2 : sF2.WF := St.WF.commit hwf1 ws2
  have hfa : Fr [] w w8 := by
    have h1 : Fr [] w w4 := Fr.new2 ((hf1.trans' hf2).trans' hf3) hf4 hb hbm
    exact Fr.new2 (((h1.trans' hf5).trans' hf6).trans' hf7) hf8 hb hbm
  simp (maxSteps := 4000000) (disch := (first | assumption | exact List.not_mem_nil | exact Fr.refl _ _ | ((repeat (first | assumption | apply cur_alloc | apply cur_setB | apply cur_drew | apply cur_drewN)); done) | omega | (simp only [gz, Value.cells, oneC]; first | done | omega) | ((simp only [List.mem_cons, List.not_mem_nil, or_false, gz]); omega) | rfl)) only [↓gsd, gs, ev, Nat.reduceAdd, Nat.reduceEqDiff, oneC, Value.cells, Option.isNone, gt, ↓hk15]
  refine read_spec h8 hwf2 fun w9 hf9 => ?_
  have cw9 := cur w9
  have hz9 := hf9.size
  rw [fx3]
  unfold encFact
  simp (maxSteps := 4000000) (disch := (first | assumption | exact List.not_mem_nil | exact Fr.refl _ _ | ((repeat (first | assumption | apply cur_alloc | apply cur_setB | apply cur_drew | apply cur_drewN)); done) | omega | (simp only [gz, Value.cells, oneC]; first | done | omega) | ((simp only [List.mem_cons, List.not_mem_nil, or_false, gz]); omega) | rfl)) only [↓gsd, gs, ev, Nat.reduceAdd, Nat.reduceEqDiff, oneC, Value.cells, Option.isNone, gt, ↓hk15]
  generalize hW : World.alloc w9 _ = w10
  have hf10 : Fr [] w9 w10 := by rw [← hW]; (repeat (first | exact Fr.refl _ _ | assumption | with_reducible apply Fr.alloc | with_reducible apply Fr.drew | with_reducible refine Fr.setB ?_ _ _ (.inr (by first | omega | (simp only [gz]; omega))) | with_reducible refine Fr.setB ?_ _ _ (.inl (by first | assumption | simp)) | with_reducible refine Fr.trans' ?_ (by assumption)))
  have g6 : w10.heap[w9.heap.size]? = some (.cells ([.string ⟨#[97]⟩, .bool true, .string ⟨#[49]⟩, .int .i64 1, .int .i64 2] : List Value).toArray 31 (0, 0)) := by rw [← hW]; exact get_alloc_new _ _
  clear hW
  have cw10 := cur w10
  have hz10 := hf10.size
  refine read_spec ((h8.frN hf9).frN hf10) hwf2 fun w11 hf11 => ?_
  have cw11 := cur w11
  have hz11 := hf11.size
  replace g6 := hf11.getN g6
  have hlt6 := lt_of_get _ _ g6
  rw [fx4]
  unfold encFact
  simp (maxSteps := 4000000) (disch := (first | assumption | exact List.not_mem_nil | exact Fr.refl _ _ | ((repeat (first | assumption | apply cur_alloc | apply cur_setB | apply cur_drew | apply cur_drewN)); done) | omega | (simp only [gz, Value.cells, oneC]; first | done | omega) | ((simp only [List.mem_cons, List.not_mem_nil, or_false, gz]); omega) | rfl)) only [↓gsd, gs, ev, Nat.reduceAdd, Nat.reduceEqDiff, oneC, Value.cells, Option.isNone, gt, ↓hk15, g6]
  refine last_spec (((h8.frN hf9).frN hf10).frN hf11 |>.frN ((Fr.refl _ _).alloc _)) ?_
  rw [fx5]
  simp (maxSteps := 4000000) (disch := (first | assumption | exact List.not_mem_nil | exact Fr.refl _ _ | ((repeat (first | assumption | apply cur_alloc | apply cur_setB | apply cur_drew | apply cur_drewN)); done) | omega | (simp only [gz, Value.cells, oneC]; first | done | omega) | ((simp only [List.mem_cons, List.not_mem_nil, or_false, gz]); omega) | rfl)) only [↓gsd, gs, ev, Nat.reduceAdd, Nat.reduceEqDiff, oneC, Value.cells, Option.isNone, gt, ↓hk15, g6]
  refine hK _ ?_
  (repeat (first | exact Fr.refl _ _ | assumption | with_reducible apply Fr.alloc | with_reducible apply Fr.drew | with_reducible refine Fr.setB ?_ _ _ (.inr (by first | omega | (simp only [gz]; omega))) | with_reducible refine Fr.setB ?_ _ _ (.inl (by first | assumption | simp)) | with_reducible refine Fr.trans' ?_ (by assumption)))
end Go.Proofs.Ytenokheiindfkaa
