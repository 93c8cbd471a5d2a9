/- TableNone walked. -/
import Derived.Test.YtldmkhakjnglmaaAE
set_option linter.unusedVariables false
set_option linter.unusedSimpArgs false
set_option maxRecDepth 10000
namespace Go.Proofs.Ytldmkhakjnglmaa
open Go.VW
structure Op10 where
  kind : Int
  ent : Ent
  at_ : Int
  plo : Int
  phi : Int
def encOp10 (o : Op10) : List Value := [.int .u8 o.kind, .string o.ent.key, .bool o.ent.has, .string o.ent.data, .int .i64 o.ent.lo, .int .i64 o.ent.hi, .bool o.ent.hot, .int .i64 o.ent.stamp, .int .i64 o.ent.ins, .int .i64 o.at_, .int .i64 o.plo, .int .i64 o.phi]
theorem encOp10_len (o : Op10) : (encOp10 o).length = 12 := rfl
abbrev eG : Ent := ⟨⟨#[97]⟩, false, ⟨#[]⟩, 0, 1, false, 0, 0⟩
theorem gx1 : goodE eG = true := by kernel_rfl
theorem gx2 : (tF0.putR eG).n = 1 := by kernel_rfl
set_option maxHeartbeats 16000000 in
theorem none_op {w : World} {o : Op10} {K : Value → World → Prop} (hK : ∀ w', Fr [] w w' → K (.bool true) w') : CallsN Try.prog 6 [.agg (encOp10 o).toArray] w K := by
  have cw := cur w
  refine call6 ?_
  unfold encOp10
  simp (maxSteps := 4000000) (disch := (first | assumption | exact List.not_mem_nil | exact Fr.refl _ _ | ((repeat (first | assumption | apply cur_alloc | apply cur_setB | apply cur_drew | apply cur_drewN)); done) | omega | (simp only [gz, Value.cells, oneC]; first | done | omega) | ((simp only [List.mem_cons, List.not_mem_nil, or_false, gz]); omega) | rfl)) only [↓gsd, gs, ev, Nat.reduceAdd, Nat.reduceEqDiff, oneC, Value.cells, Option.isNone, gt, frT_self, frT_drew, frT_drew0, frT_alloc, ↓hk6]
  generalize hW : World.alloc w _ = w1
  have hf1 : Fr [] w w1 := by rw [← hW]; (repeat (first | exact Fr.refl _ _ | assumption | with_reducible apply Fr.alloc | with_reducible apply Fr.drew | with_reducible refine Fr.setB ?_ _ _ (.inr (by first | omega | (simp only [gz]; omega))) | with_reducible refine Fr.setB ?_ _ _ (.inl (by first | assumption | simp)) | with_reducible refine Fr.trans' ?_ (by assumption)))
  have g1 : w1.heap[w.heap.size]? = some (.cells (encOp10 o).toArray 40 (0, 0)) := by rw [← hW]; exact get_alloc_new _ _
  clear hW
  have cw1 := cur w1
  unfold encOp10 at g1
  refine fixed_spec fun w2 hf2 => ?_
  have cw2 := cur w2
  have g2 := hf2.getN g1
  have hl2 := lt_of_get _ _ g2
  simp (maxSteps := 4000000) (disch := (first | assumption | exact List.not_mem_nil | exact Fr.refl _ _ | ((repeat (first | assumption | apply cur_alloc | apply cur_setB | apply cur_drew | apply cur_drewN)); done) | omega | (simp only [gz, Value.cells, oneC]; first | done | omega) | ((simp only [List.mem_cons, List.not_mem_nil, or_false, gz]); omega) | rfl)) only [↓gsd, gs, ev, Nat.reduceAdd, Nat.reduceEqDiff, oneC, Value.cells, Option.isNone, gt, frT_self, frT_drew, frT_drew0, frT_alloc, ↓hk6, g2]
  refine get_nil fun w3 hf3 => ?_
  have cw3 := cur w3
  have g3 := hf3.getN g2
  have hl3 := lt_of_get _ _ g3
  unfold encEnt
  simp (maxSteps := 4000000) (disch := (first | assumption | exact List.not_mem_nil | exact Fr.refl _ _ | ((repeat (first | assumption | apply cur_alloc | apply cur_setB | apply cur_drew | apply cur_drewN)); done) | omega | (simp only [gz, Value.cells, oneC]; first | done | omega) | ((simp only [List.mem_cons, List.not_mem_nil, or_false, gz]); omega) | rfl)) only [↓gsd, gs, ev, Nat.reduceAdd, Nat.reduceEqDiff, oneC, Value.cells, Option.isNone, gt, frT_self, frT_drew, frT_drew0, frT_alloc, ↓hk6, g3]
  generalize hW : World.alloc w3 _ = w4
  have hf4 : Fr [] w3 w4 := by rw [← hW]; (repeat (first | exact Fr.refl _ _ | assumption | with_reducible apply Fr.alloc | with_reducible apply Fr.drew | with_reducible refine Fr.setB ?_ _ _ (.inr (by first | omega | (simp only [gz]; omega))) | with_reducible refine Fr.setB ?_ _ _ (.inl (by first | assumption | simp)) | with_reducible refine Fr.trans' ?_ (by assumption)))
  have ga4 : w4.heap[w3.heap.size]? = some (.cells (encEnt entZ).toArray 36 (0, 0)) := by rw [← hW]; exact get_alloc_new _ _
  clear hW
  have cw4 := cur w4
  have g4 := hf4.getN g3
  have hl4 := lt_of_get _ _ g4
  refine Find_nil fun w5 hf5 => ?_
  have cw5 := cur w5
  have g5 := hf5.getN g4
  have hl5 := lt_of_get _ _ g5
  have ga5 := hf5.getN ga4
  have hla5 := lt_of_get _ _ ga5
  unfold encEnt
  simp (maxSteps := 4000000) (disch := (first | assumption | exact List.not_mem_nil | exact Fr.refl _ _ | ((repeat (first | assumption | apply cur_alloc | apply cur_setB | apply cur_drew | apply cur_drewN)); done) | omega | (simp only [gz, Value.cells, oneC]; first | done | omega) | ((simp only [List.mem_cons, List.not_mem_nil, or_false, gz]); omega) | rfl)) only [↓gsd, gs, ev, Nat.reduceAdd, Nat.reduceEqDiff, oneC, Value.cells, Option.isNone, gt, frT_self, frT_drew, frT_drew0, frT_alloc, ↓hk6, g5]
  generalize hW : World.alloc w5 _ = w6
  have hf6 : Fr [] w5 w6 := by rw [← hW]; (repeat (first | exact Fr.refl _ _ | assumption | with_reducible apply Fr.alloc | with_reducible apply Fr.drew | with_reducible refine Fr.setB ?_ _ _ (.inr (by first | omega | (simp only [gz]; omega))) | with_reducible refine Fr.setB ?_ _ _ (.inl (by first | assumption | simp)) | with_reducible refine Fr.trans' ?_ (by assumption)))
  have gb6 : w6.heap[w5.heap.size]? = some (.cells (encEnt entZ).toArray 36 (0, 0)) := by rw [← hW]; exact get_alloc_new _ _
  clear hW
  have cw6 := cur w6
  have g6 := hf6.getN g5
  have ga6 := hf6.getN ga5
  refine put_nil (e := o.ent) fun w7 hf7 => ?_
  have cw7 := cur w7
  have g7 := hf7.getN g6
  have hl7 := lt_of_get _ _ g7
  simp (maxSteps := 4000000) (disch := (first | assumption | exact List.not_mem_nil | exact Fr.refl _ _ | ((repeat (first | assumption | apply cur_alloc | apply cur_setB | apply cur_drew | apply cur_drewN)); done) | omega | (simp only [gz, Value.cells, oneC]; first | done | omega) | ((simp only [List.mem_cons, List.not_mem_nil, or_false, gz]); omega) | rfl)) only [↓gsd, gs, ev, Nat.reduceAdd, Nat.reduceEqDiff, oneC, Value.cells, Option.isNone, gt, frT_self, frT_drew, frT_drew0, frT_alloc, ↓hk6, g7]
  refine drop_nil fun w8 hf8 => ?_
  have cw8 := cur w8
  have g8 := hf8.getN g7
  have ga8 := hf8.getN (hf7.getN ga6)
  have gb8 := hf8.getN (hf7.getN gb6)
  have hl8 := lt_of_get _ _ g8
  have hla8 := lt_of_get _ _ ga8
  have hlb8 := lt_of_get _ _ gb8
  unfold encEnt at ga8 gb8
  simp (maxSteps := 4000000) (disch := (first | assumption | exact List.not_mem_nil | exact Fr.refl _ _ | ((repeat (first | assumption | apply cur_alloc | apply cur_setB | apply cur_drew | apply cur_drewN)); done) | omega | (simp only [gz, Value.cells, oneC]; first | done | omega) | ((simp only [List.mem_cons, List.not_mem_nil, or_false, gz]); omega) | rfl)) only [↓gsd, gs, ev, Nat.reduceAdd, Nat.reduceEqDiff, oneC, Value.cells, Option.isNone, gt, frT_self, frT_drew, frT_drew0, frT_alloc, ↓hk6, g8, ga8, gb8]
  have dz : decide ((0 : Int) = 0) = true := rfl
  refine all_nil ?_
  simp (maxSteps := 4000000) (disch := (first | assumption | exact List.not_mem_nil | exact Fr.refl _ _ | ((repeat (first | assumption | apply cur_alloc | apply cur_setB | apply cur_drew | apply cur_drewN)); done) | omega | (simp only [gz, Value.cells, oneC]; first | done | omega) | ((simp only [List.mem_cons, List.not_mem_nil, or_false, gz]); omega) | rfl)) only [↓gsd, gs, ev, Nat.reduceAdd, Nat.reduceEqDiff, oneC, Value.cells, Option.isNone, gt, frT_self, frT_drew, frT_drew0, frT_alloc, ↓hk6, g8, Int.natCast_zero, dz]
  refine of_nil ?_
  simp (maxSteps := 4000000) (disch := (first | assumption | exact List.not_mem_nil | exact Fr.refl _ _ | ((repeat (first | assumption | apply cur_alloc | apply cur_setB | apply cur_drew | apply cur_drewN)); done) | omega | (simp only [gz, Value.cells, oneC]; first | done | omega) | ((simp only [List.mem_cons, List.not_mem_nil, or_false, gz]); omega) | rfl)) only [↓gsd, gs, ev, Nat.reduceAdd, Nat.reduceEqDiff, oneC, Value.cells, Option.isNone, gt, frT_self, frT_drew, frT_drew0, frT_alloc, ↓hk6, Int.natCast_zero, dz]
  refine len_nil ?_
  simp (maxSteps := 4000000) (disch := (first | assumption | exact List.not_mem_nil | exact Fr.refl _ _ | ((repeat (first | assumption | apply cur_alloc | apply cur_setB | apply cur_drew | apply cur_drewN)); done) | omega | (simp only [gz, Value.cells, oneC]; first | done | omega) | ((simp only [List.mem_cons, List.not_mem_nil, or_false, gz]); omega) | rfl)) only [↓gsd, gs, ev, Nat.reduceAdd, Nat.reduceEqDiff, oneC, Value.cells, Option.isNone, gt, frT_self, frT_drew, frT_drew0, frT_alloc, ↓hk6, dz]
  refine bytes_nil ?_
  simp (maxSteps := 4000000) (disch := (first | assumption | exact List.not_mem_nil | exact Fr.refl _ _ | ((repeat (first | assumption | apply cur_alloc | apply cur_setB | apply cur_drew | apply cur_drewN)); done) | omega | (simp only [gz, Value.cells, oneC]; first | done | omega) | ((simp only [List.mem_cons, List.not_mem_nil, or_false, gz]); omega) | rfl)) only [↓gsd, gs, ev, Nat.reduceAdd, Nat.reduceEqDiff, oneC, Value.cells, Option.isNone, gt, frT_self, frT_drew, frT_drew0, frT_alloc, ↓hk6, dz]
  refine clone_nil ?_
  simp (maxSteps := 4000000) (disch := (first | assumption | exact List.not_mem_nil | exact Fr.refl _ _ | ((repeat (first | assumption | apply cur_alloc | apply cur_setB | apply cur_drew | apply cur_drewN)); done) | omega | (simp only [gz, Value.cells, oneC]; first | done | omega) | ((simp only [List.mem_cons, List.not_mem_nil, or_false, gz]); omega) | rfl)) only [↓gsd, gs, ev, Nat.reduceAdd, Nat.reduceEqDiff, oneC, Value.cells, Option.isNone, gt, frT_self, frT_drew, frT_drew0, frT_alloc, ↓hk6]
  generalize hW : World.alloc w8 _ = w9
  have hf9 : Fr [] w8 w9 := by rw [← hW]; (repeat (first | exact Fr.refl _ _ | assumption | with_reducible apply Fr.alloc | with_reducible apply Fr.drew | with_reducible refine Fr.setB ?_ _ _ (.inr (by first | omega | (simp only [gz]; omega))) | with_reducible refine Fr.setB ?_ _ _ (.inl (by first | assumption | simp)) | with_reducible refine Fr.trans' ?_ (by assumption)))
  have h9 : TabAt w9 w8.heap.size [w8.heap.size] tF0 := by
    rw [← hW]
    refine ⟨⟨none, get_alloc_new _ _, rfl⟩, by simp, fun x hx => ?_⟩
    simp at hx; subst hx; rw [size_alloc]; omega
  clear hW
  have cw9 := cur w9
  have hF9 : Fr [] w w8 := ((((((hf1.trans' hf2).trans' hf3).trans' hf4).trans' hf5).trans' hf6).trans' hf7).trans' hf8
  have hz9 := hF9.size
  refine entry_spec fun w10 hf10 => ?_
  have cw10 := cur w10
  refine put_spec (e := eG) (h9.frN hf10) wf0 (by omega) fun w11 S11 h11 hs11 hn11 hf11 => ?_
  have cw11 := cur w11
  rw [gx1]
  simp (maxSteps := 4000000) (disch := (first | assumption | exact List.not_mem_nil | exact Fr.refl _ _ | ((repeat (first | assumption | apply cur_alloc | apply cur_setB | apply cur_drew | apply cur_drewN)); done) | omega | (simp only [gz, Value.cells, oneC]; first | done | omega) | ((simp only [List.mem_cons, List.not_mem_nil, or_false, gz]); omega) | rfl)) only [↓gsd, gs, ev, Nat.reduceAdd, Nat.reduceEqDiff, oneC, Value.cells, Option.isNone, gt, frT_self, frT_drew, frT_drew0, frT_alloc, ↓hk6]
  refine len_spec h11 ?_
  rw [gx2]
  have d1 : decide ((1 : Int) = 1) = true := rfl
  simp (maxSteps := 4000000) (disch := (first | assumption | exact List.not_mem_nil | exact Fr.refl _ _ | ((repeat (first | assumption | apply cur_alloc | apply cur_setB | apply cur_drew | apply cur_drewN)); done) | omega | (simp only [gz, Value.cells, oneC]; first | done | omega) | ((simp only [List.mem_cons, List.not_mem_nil, or_false, gz]); omega) | rfl)) only [↓gsd, gs, ev, Nat.reduceAdd, Nat.reduceEqDiff, oneC, Value.cells, Option.isNone, gt, frT_self, frT_drew, frT_drew0, frT_alloc, ↓hk6, d1]
  exact hK _ (((hF9.trans' hf9).trans' hf10).trans hf11 fun y hy => by simp at hy; subst hy; exact .inr (by omega))
end Go.Proofs.Ytldmkhakjnglmaa
