/- Table: New, Len, Bytes, entry; spans; Meets; Find. -/
import Derived.Test.YtldmkhakjnglmaaA9
set_option linter.unusedVariables false
set_option linter.unusedSimpArgs false
set_option maxRecDepth 10000
namespace Go.Proofs.Ytldmkhakjnglmaa
open Go.VW
theorem new_spec {w : World} {K : Value → World → Prop} (hK : ∀ tb w', Fr [] w w' → w.heap.size ≤ tb → TabAt w' tb [tb] ⟨[], 0, 0⟩ → K (.pointer (some ⟨tb, 0, none⟩)) w') : CallsN Try.prog 8 [] w K := by
  have cw := cur w
  refine call8 ?_
  simp (maxSteps := 4000000) (disch := (first | assumption | exact List.not_mem_nil | exact Fr.refl _ _ | ((repeat (first | assumption | apply cur_alloc | apply cur_setB | apply cur_drew | apply cur_drewN)); done) | omega | (simp only [gz, Value.cells, oneC]; first | done | omega) | ((simp only [List.mem_cons, List.not_mem_nil, or_false, gz]); omega) | rfl)) only [↓gsd, gs, ev, Nat.reduceAdd, Nat.reduceEqDiff, oneC, Value.cells, Option.isNone, gt, frT_self, frT_drew, frT_drew0, frT_alloc, ↓hk8]
  refine hK _ _ ((Fr.refl _ _).alloc _) (Nat.le_refl _) ⟨⟨none, get_alloc_new _ _, rfl⟩, by simp, fun x hx => ?_⟩
  simp at hx; subst hx; rw [size_alloc]; omega
theorem len_spec {w : World} {tb : Nat} {S : List Nat} {T : Tab} {K : Value → World → Prop} (h : TabAt w tb S T) (hK : K (.int .i64 T.n) w) : CallsN Try.prog 10 [.pointer (some ⟨tb, 0, none⟩)] w K := by
  have cw := cur w
  obtain ⟨⟨mb, h1, _⟩, _, _⟩ := h
  have hlt := lt_of_get _ _ h1
  refine call10 ?_
  simp (maxSteps := 4000000) (disch := (first | assumption | exact List.not_mem_nil | exact Fr.refl _ _ | ((repeat (first | assumption | apply cur_alloc | apply cur_setB | apply cur_drew | apply cur_drewN)); done) | omega | (simp only [gz, Value.cells, oneC]; first | done | omega) | ((simp only [List.mem_cons, List.not_mem_nil, or_false, gz]); omega) | rfl)) only [↓gsd, gs, ev, Nat.reduceAdd, Nat.reduceEqDiff, oneC, Value.cells, Option.isNone, gt, frT_self, frT_drew, frT_drew0, frT_alloc, ↓hk10, h1]
  exact hK
theorem bytes_spec {w : World} {tb : Nat} {S : List Nat} {T : Tab} {K : Value → World → Prop} (h : TabAt w tb S T) (hK : K (.int .i64 T.bytes) w) : CallsN Try.prog 11 [.pointer (some ⟨tb, 0, none⟩)] w K := by
  have cw := cur w
  obtain ⟨⟨mb, h1, _⟩, _, _⟩ := h
  have hlt := lt_of_get _ _ h1
  refine call11 ?_
  simp (maxSteps := 4000000) (disch := (first | assumption | exact List.not_mem_nil | exact Fr.refl _ _ | ((repeat (first | assumption | apply cur_alloc | apply cur_setB | apply cur_drew | apply cur_drewN)); done) | omega | (simp only [gz, Value.cells, oneC]; first | done | omega) | ((simp only [List.mem_cons, List.not_mem_nil, or_false, gz]); omega) | rfl)) only [↓gsd, gs, ev, Nat.reduceAdd, Nat.reduceEqDiff, oneC, Value.cells, Option.isNone, gt, frT_self, frT_drew, frT_drew0, frT_alloc, ↓hk11, h1]
  exact hK
theorem len_nil {w : World} {K : Value → World → Prop} (hK : K (.int .i64 0) w) : CallsN Try.prog 10 [.pointer none] w K := by
  have cw := cur w
  refine call10 ?_
  simp (maxSteps := 4000000) (disch := (first | assumption | exact List.not_mem_nil | exact Fr.refl _ _ | ((repeat (first | assumption | apply cur_alloc | apply cur_setB | apply cur_drew | apply cur_drewN)); done) | omega | (simp only [gz, Value.cells, oneC]; first | done | omega) | ((simp only [List.mem_cons, List.not_mem_nil, or_false, gz]); omega) | rfl)) only [↓gsd, gs, ev, Nat.reduceAdd, Nat.reduceEqDiff, oneC, Value.cells, Option.isNone, gt, frT_self, frT_drew, frT_drew0, frT_alloc, ↓hk10]
  exact hK
theorem bytes_nil {w : World} {K : Value → World → Prop} (hK : K (.int .i64 0) w) : CallsN Try.prog 11 [.pointer none] w K := by
  have cw := cur w
  refine call11 ?_
  simp (maxSteps := 4000000) (disch := (first | assumption | exact List.not_mem_nil | exact Fr.refl _ _ | ((repeat (first | assumption | apply cur_alloc | apply cur_setB | apply cur_drew | apply cur_drewN)); done) | omega | (simp only [gz, Value.cells, oneC]; first | done | omega) | ((simp only [List.mem_cons, List.not_mem_nil, or_false, gz]); omega) | rfl)) only [↓gsd, gs, ev, Nat.reduceAdd, Nat.reduceEqDiff, oneC, Value.cells, Option.isNone, gt, frT_self, frT_drew, frT_drew0, frT_alloc, ↓hk11]
  exact hK
theorem clone_nil {w : World} {K : Value → World → Prop} (hK : K (.pointer none) w) : CallsN Try.prog 20 [.pointer none] w K := by
  have cw := cur w
  refine call20 ?_
  simp (maxSteps := 4000000) (disch := (first | assumption | exact List.not_mem_nil | exact Fr.refl _ _ | ((repeat (first | assumption | apply cur_alloc | apply cur_setB | apply cur_drew | apply cur_drewN)); done) | omega | (simp only [gz, Value.cells, oneC]; first | done | omega) | ((simp only [List.mem_cons, List.not_mem_nil, or_false, gz]); omega) | rfl)) only [↓gsd, gs, ev, Nat.reduceAdd, Nat.reduceEqDiff, oneC, Value.cells, Option.isNone, gt, frT_self, frT_drew, frT_drew0, frT_alloc, ↓hk20]
  exact hK
theorem all_nil {w : World} {K : Value → World → Prop} (hK : K sliceZ w) : CallsN Try.prog 14 [.pointer none] w K := by
  have cw := cur w
  refine call14 ?_
  simp (maxSteps := 4000000) (disch := (first | assumption | exact List.not_mem_nil | exact Fr.refl _ _ | ((repeat (first | assumption | apply cur_alloc | apply cur_setB | apply cur_drew | apply cur_drewN)); done) | omega | (simp only [gz, Value.cells, oneC]; first | done | omega) | ((simp only [List.mem_cons, List.not_mem_nil, or_false, gz]); omega) | rfl)) only [↓gsd, gs, ev, Nat.reduceAdd, Nat.reduceEqDiff, oneC, Value.cells, Option.isNone, gt, frT_self, frT_drew, frT_drew0, frT_alloc, ↓hk14]
  exact hK
theorem drop_nil {w : World} {k : ByteArray} {lo : Int} {K : Value → World → Prop} (hK : ∀ w', Fr [] w w' → K (.bool false) w') : CallsN Try.prog 21 [.pointer none, .string k, .int .i64 lo] w K := by
  have cw := cur w
  refine call21 ?_
  simp (maxSteps := 4000000) (disch := (first | assumption | exact List.not_mem_nil | exact Fr.refl _ _ | ((repeat (first | assumption | apply cur_alloc | apply cur_setB | apply cur_drew | apply cur_drewN)); done) | omega | (simp only [gz, Value.cells, oneC]; first | done | omega) | ((simp only [List.mem_cons, List.not_mem_nil, or_false, gz]); omega) | rfl)) only [↓gsd, gs, ev, Nat.reduceAdd, Nat.reduceEqDiff, oneC, Value.cells, Option.isNone, gt, ↓hk21]
  refine find_nil fun w1 hf1 => ?_
  have cw1 := cur w1
  simp (maxSteps := 4000000) (disch := (first | assumption | exact List.not_mem_nil | exact Fr.refl _ _ | ((repeat (first | assumption | apply cur_alloc | apply cur_setB | apply cur_drew | apply cur_drewN)); done) | omega | (simp only [gz, Value.cells, oneC]; first | done | omega) | ((simp only [List.mem_cons, List.not_mem_nil, or_false, gz]); omega) | rfl)) only [↓gsd, gs, ev, Nat.reduceAdd, Nat.reduceEqDiff, oneC, Value.cells, Option.isNone, gt, ↓hk21]
  exact hK _ hf1
theorem put_nil {w : World} {e : Ent} {K : Value → World → Prop} (hK : ∀ w', Fr [] w w' → K (.bool false) w') : CallsN Try.prog 15 [.pointer none, .agg (encEnt e).toArray] w K := by
  have cw := cur w
  refine call15 ?_
  unfold encEnt
  simp (maxSteps := 4000000) (disch := (first | assumption | exact List.not_mem_nil | exact Fr.refl _ _ | ((repeat (first | assumption | apply cur_alloc | apply cur_setB | apply cur_drew | apply cur_drewN)); done) | omega | (simp only [gz, Value.cells, oneC]; first | done | omega) | ((simp only [List.mem_cons, List.not_mem_nil, or_false, gz]); omega) | rfl)) only [↓gsd, gs, ev, Nat.reduceAdd, Nat.reduceEqDiff, oneC, Value.cells, Option.isNone, gt, ↓hk15]
  exact hK _ ((Fr.refl _ _).alloc _)
abbrev entZ : Ent := ⟨⟨#[]⟩, false, ⟨#[]⟩, 0, 0, false, 0, 0⟩
theorem get_nil {w : World} {k : ByteArray} {lo : Int} {K : Value → World → Prop} (hK : ∀ w', Fr [] w w' → K (.tuple ([.agg (encEnt entZ).toArray, .bool false] : List Value).toArray) w') : CallsN Try.prog 17 [.pointer none, .string k, .int .i64 lo] w K := by
  have cw := cur w
  unfold encEnt at hK
  refine call17 ?_
  simp (maxSteps := 4000000) (disch := (first | assumption | exact List.not_mem_nil | exact Fr.refl _ _ | ((repeat (first | assumption | apply cur_alloc | apply cur_setB | apply cur_drew | apply cur_drewN)); done) | omega | (simp only [gz, Value.cells, oneC]; first | done | omega) | ((simp only [List.mem_cons, List.not_mem_nil, or_false, gz]); omega) | rfl)) only [↓gsd, gs, ev, Nat.reduceAdd, Nat.reduceEqDiff, oneC, Value.cells, Option.isNone, gt, frT_self, frT_drew, frT_drew0, frT_alloc, ↓hk17]
  generalize hW : World.alloc w _ = w1
  have hf1 : Fr [] w w1 := by rw [← hW]; (repeat (first | exact Fr.refl _ _ | assumption | with_reducible apply Fr.alloc | with_reducible apply Fr.drew | with_reducible refine Fr.setB ?_ _ _ (.inr (by first | omega | (simp only [gz]; omega))) | with_reducible refine Fr.setB ?_ _ _ (.inl (by first | assumption | simp)) | with_reducible refine Fr.trans' ?_ (by assumption)))
  have hz1 : w1.heap.size = w.heap.size + 1 := by rw [← hW]; simp only [gz]
  have g1 : w1.heap[w.heap.size]? = some (.cells (encEnt entZ).toArray 36 (0, 0)) := by rw [← hW]; exact get_alloc_new _ _
  clear hW
  have cw1 := cur w1
  refine find_nil fun w2 hf2 => ?_
  have cw2 := cur w2
  have g2 := hf2.getN g1
  have hl2 := lt_of_get _ _ g2
  unfold encEnt at g2
  simp (maxSteps := 4000000) (disch := (first | assumption | exact List.not_mem_nil | exact Fr.refl _ _ | ((repeat (first | assumption | apply cur_alloc | apply cur_setB | apply cur_drew | apply cur_drewN)); done) | omega | (simp only [gz, Value.cells, oneC]; first | done | omega) | ((simp only [List.mem_cons, List.not_mem_nil, or_false, gz]); omega) | rfl)) only [↓gsd, gs, ev, Nat.reduceAdd, Nat.reduceEqDiff, oneC, Value.cells, Option.isNone, gt, frT_self, frT_drew, frT_drew0, frT_alloc, ↓hk17, g2]
  exact hK _ ((hf1.trans' hf2).setB _ _ (.inr (Nat.le_refl _)))
theorem Find_nil {w : World} {k : ByteArray} {at_ plo phi : Int} {K : Value → World → Prop} (hK : ∀ w', Fr [] w w' → K (.tuple ([.agg (encEnt entZ).toArray, .bool false] : List Value).toArray) w') : CallsN Try.prog 16 [.pointer none, .string k, .int .i64 at_, .agg ([.int .i64 plo, .int .i64 phi] : List Value).toArray] w K := by
  have cw := cur w
  unfold encEnt at hK
  refine call16 ?_
  simp (maxSteps := 4000000) (disch := (first | assumption | exact List.not_mem_nil | exact Fr.refl _ _ | ((repeat (first | assumption | apply cur_alloc | apply cur_setB | apply cur_drew | apply cur_drewN)); done) | omega | (simp only [gz, Value.cells, oneC]; first | done | omega) | ((simp only [List.mem_cons, List.not_mem_nil, or_false, gz]); omega) | rfl)) only [↓gsd, gs, ev, Nat.reduceAdd, Nat.reduceEqDiff, oneC, Value.cells, Option.isNone, gt, frT_self, frT_drew, frT_drew0, frT_alloc, ↓hk16]
  refine row_nil ?_
  simp (maxSteps := 4000000) (disch := (first | assumption | exact List.not_mem_nil | exact Fr.refl _ _ | ((repeat (first | assumption | apply cur_alloc | apply cur_setB | apply cur_drew | apply cur_drewN)); done) | omega | (simp only [gz, Value.cells, oneC]; first | done | omega) | ((simp only [List.mem_cons, List.not_mem_nil, or_false, gz]); omega) | rfl)) only [↓gsd, gs, ev, Nat.reduceAdd, Nat.reduceEqDiff, oneC, Value.cells, Option.isNone, gt, frT_self, frT_drew, frT_drew0, frT_alloc, ↓hk16]
  refine loop_intro (fun e w' => e 8 = .pointer (some ⟨w.heap.size + 1, 0, none⟩) ∧ e 9 = .bool false ∧ e 11 = .int .i64 (-1) ∧ w'.heap[w.heap.size + 1]? = some (.cells (encEnt entZ).toArray 36 (0, 0)) ∧ Fr [] w w') (fun e _ => 0) ?_ ?_
  · simp (maxSteps := 4000000) (disch := (first | assumption | exact List.not_mem_nil | exact Fr.refl _ _ | ((repeat (first | assumption | apply cur_alloc | apply cur_setB | apply cur_drew | apply cur_drewN)); done) | omega | (simp only [gz, Value.cells, oneC]; first | done | omega) | ((simp only [List.mem_cons, List.not_mem_nil, or_false, gz]); omega) | rfl)) only [↓gsd, gs, ev, Nat.reduceAdd, Nat.reduceEqDiff, oneC, Value.cells, Option.isNone]
    exact ⟨rfl, rfl, ((Fr.refl _ _).alloc _).alloc _⟩
  · rintro e w1 k ⟨e8, e9, e11, g1, hf1⟩ hk
    have cw1 := cur w1
    have hl1 := lt_of_get _ _ g1
    have d : decide ((0 : Int) ≤ -1) = false := rfl
    unfold encEnt at g1
    simp (maxSteps := 4000000) (disch := (first | assumption | exact List.not_mem_nil | exact Fr.refl _ _ | ((repeat (first | assumption | apply cur_alloc | apply cur_setB | apply cur_drew | apply cur_drewN)); done) | omega | (simp only [gz, Value.cells, oneC]; first | done | omega) | ((simp only [List.mem_cons, List.not_mem_nil, or_false, gz]); omega) | rfl)) only [↓gsd, gs, ev, Nat.reduceAdd, Nat.reduceEqDiff, oneC, Value.cells, Option.isNone, gt, frT_self, frT_drew, frT_drew0, frT_alloc, ↓hk16, e8, e9, e11, d, g1]
    exact hK _ (hf1.setB _ _ (.inr (by omega)))
end Go.Proofs.Ytldmkhakjnglmaa
