/- Table: what the document fixes. -/
import Derived.Test.YtldmkhakjnglmaaAD
set_option linter.unusedVariables false
set_option linter.unusedSimpArgs false
set_option maxRecDepth 10000
namespace Go.Proofs.Ytldmkhakjnglmaa
open Go.VW
abbrev kF : ByteArray := ⟨#[107]⟩
abbrev eF1 : Ent := ⟨kF, false, ⟨#[]⟩, 3, 7, false, 0, 0⟩
abbrev eF2 : Ent := ⟨kF, false, ⟨#[]⟩, 9, 4611686018427387904, false, 0, 0⟩
abbrev eF3 : Ent := ⟨kF, false, ⟨#[]⟩, 3, 3, false, 0, 0⟩
def tF0 : Tab := ⟨[], 0, 0⟩
def tF1 : Tab := tF0.putR eF1
def tF2 : Tab := tF1.putR eF2
def tF3 : Tab := tF2.putR eF3
theorem fx1 : goodE eF1 = true := by kernel_rfl
theorem fx2 : goodE eF2 = true := by kernel_rfl
theorem fx3 : goodE eF3 = false := by kernel_rfl
theorem fx4 : tF3.n = 2 := by kernel_rfl
theorem fx5 : tF3.bytes = 66 := by kernel_rfl
theorem fx6 : (findE (tF3.row kF) 8 0 4611686018427387904).isSome = true := by kernel_rfl
theorem fx7 : ((findE (tF3.row kF) 8 0 4611686018427387904).getD entZ).lo = 3 := by kernel_rfl
theorem fx8 : (tF3.row kF).length = 2 := by kernel_rfl
theorem fx9 : tF3.rows.map (·.1) = [kF] := by kernel_rfl
theorem fxA : keysOf [kF] = [kF] := by simp [keysOf, sortB, unbl, bl]
theorem fxB : (allE tF3 (keysOf (tF3.rows.map (·.1)))).length = 2 := by
  rw [fx9, fxA]
  show ([kF].flatMap tF3.row).length = 2
  simp only [List.flatMap_cons, List.flatMap_nil, List.append_nil]
  exact fx8
theorem wf0 : tF0.WF 0 := ⟨fun k => List.Pairwise.nil, fun k => Nat.le_refl _⟩
set_option maxHeartbeats 16000000 in
theorem fixed_spec {w : World} {K : Value → World → Prop} (hK : ∀ w', Fr [] w w' → K (.bool true) w') : CallsN Try.prog 7 [] w K := by
  have cw := cur w
  refine call7 ?_
  simp (maxSteps := 4000000) (disch := (first | assumption | exact List.not_mem_nil | exact Fr.refl _ _ | ((repeat (first | assumption | apply cur_alloc | apply cur_setB | apply cur_drew | apply cur_drewN)); done) | omega | (simp only [gz, Value.cells, oneC]; first | done | omega) | ((simp only [List.mem_cons, List.not_mem_nil, or_false, gz]); omega) | rfl)) only [↓gsd, gs, ev, Nat.reduceAdd, Nat.reduceEqDiff, oneC, Value.cells, Option.isNone, gt, frT_self, frT_drew, frT_drew0, frT_alloc, ↓hk7]
  refine new_spec fun tb w1 hf1 htb h1 => ?_
  have cw1 := cur w1
  simp (maxSteps := 4000000) (disch := (first | assumption | exact List.not_mem_nil | exact Fr.refl _ _ | ((repeat (first | assumption | apply cur_alloc | apply cur_setB | apply cur_drew | apply cur_drewN)); done) | omega | (simp only [gz, Value.cells, oneC]; first | done | omega) | ((simp only [List.mem_cons, List.not_mem_nil, or_false, gz]); omega) | rfl)) only [↓gsd, gs, ev, Nat.reduceAdd, Nat.reduceEqDiff, oneC, Value.cells, Option.isNone, gt, frT_self, frT_drew, frT_drew0, frT_alloc, ↓hk7]
  refine entry_spec fun w2 hf2 => ?_
  have cw2 := cur w2
  have h2 : TabAt w2 tb [tb] tF0 := h1.frN hf2
  refine put_spec (e := eF1) h2 wf0 (by omega) fun w3 S3 h3 hs3 hn3 hf3 => ?_
  have cw3 := cur w3
  have hz2 := hf2.size
  have hz1 := hf1.size
  have hF3 : Fr [] w w3 := (hf1.trans' hf2).trans hf3 fun y hy => by simp at hy; subst hy; exact .inr htb
  have hn3' : ∀ x ∈ S3, w.heap.size ≤ x := fun x hx => by
    rcases hn3 x hx with q | q
    · simp at q; subst q; exact htb
    · omega
  have wf1 := wf0.putR h2.nd eF1
  rw [fx1]
  simp (maxSteps := 4000000) (disch := (first | assumption | exact List.not_mem_nil | exact Fr.refl _ _ | ((repeat (first | assumption | apply cur_alloc | apply cur_setB | apply cur_drew | apply cur_drewN)); done) | omega | (simp only [gz, Value.cells, oneC]; first | done | omega) | ((simp only [List.mem_cons, List.not_mem_nil, or_false, gz]); omega) | rfl)) only [↓gsd, gs, ev, Nat.reduceAdd, Nat.reduceEqDiff, oneC, Value.cells, Option.isNone, gt, frT_self, frT_drew, frT_drew0, frT_alloc, ↓hk7]
  refine entry_spec fun w4 hf4 => ?_
  have cw4 := cur w4
  have h4 : TabAt w4 tb S3 tF1 := TabAt.frN h3 hf4
  refine put_spec (e := eF2) h4 wf1 (by omega) fun w5 S5 h5 hs5 hn5 hf5 => ?_
  have cw5 := cur w5
  have hz4 := hf4.size
  have hz3 := hF3.size
  have hF5 : Fr [] w w5 := (hF3.trans' hf4).trans hf5 fun y hy => .inr (hn3' y hy)
  have hn5' : ∀ x ∈ S5, w.heap.size ≤ x := fun x hx => by
    rcases hn5 x hx with q | q
    · exact hn3' x q
    · omega
  have wf2 := wf1.putR h4.nd eF2
  rw [fx2]
  simp (maxSteps := 4000000) (disch := (first | assumption | exact List.not_mem_nil | exact Fr.refl _ _ | ((repeat (first | assumption | apply cur_alloc | apply cur_setB | apply cur_drew | apply cur_drewN)); done) | omega | (simp only [gz, Value.cells, oneC]; first | done | omega) | ((simp only [List.mem_cons, List.not_mem_nil, or_false, gz]); omega) | rfl)) only [↓gsd, gs, ev, Nat.reduceAdd, Nat.reduceEqDiff, oneC, Value.cells, Option.isNone, gt, frT_self, frT_drew, frT_drew0, frT_alloc, ↓hk7]
  refine entry_spec fun w6 hf6 => ?_
  have cw6 := cur w6
  have h6 : TabAt w6 tb S5 tF2 := TabAt.frN h5 hf6
  refine put_spec (e := eF3) h6 wf2 (by omega) fun w7 S7 h7 hs7 hn7 hf7 => ?_
  have cw7 := cur w7
  have hF7 : Fr [] w w7 := (hF5.trans' hf6).trans hf7 fun y hy => .inr (hn5' y hy)
  have wf3 := wf2.putR h6.nd eF3
  have h7' : TabAt w7 tb S7 tF3 := h7
  have wf3' : tF3.WF 3 := wf3
  rw [fx3]
  simp (maxSteps := 4000000) (disch := (first | assumption | exact List.not_mem_nil | exact Fr.refl _ _ | ((repeat (first | assumption | apply cur_alloc | apply cur_setB | apply cur_drew | apply cur_drewN)); done) | omega | (simp only [gz, Value.cells, oneC]; first | done | omega) | ((simp only [List.mem_cons, List.not_mem_nil, or_false, gz]); omega) | rfl)) only [↓gsd, gs, ev, Nat.reduceAdd, Nat.reduceEqDiff, oneC, Value.cells, Option.isNone, gt, frT_self, frT_drew, frT_drew0, frT_alloc, ↓hk7]
  refine len_spec h7' ?_
  rw [fx4]
  have d1 : decide ((2 : Int) = 2) = true := rfl
  simp (maxSteps := 4000000) (disch := (first | assumption | exact List.not_mem_nil | exact Fr.refl _ _ | ((repeat (first | assumption | apply cur_alloc | apply cur_setB | apply cur_drew | apply cur_drewN)); done) | omega | (simp only [gz, Value.cells, oneC]; first | done | omega) | ((simp only [List.mem_cons, List.not_mem_nil, or_false, gz]); omega) | rfl)) only [↓gsd, gs, ev, Nat.reduceAdd, Nat.reduceEqDiff, oneC, Value.cells, Option.isNone, gt, frT_self, frT_drew, frT_drew0, frT_alloc, ↓hk7, d1]
  refine bytes_spec h7' ?_
  rw [fx5]
  have d2 : decide ((66 : Int) = 66) = true := rfl
  simp (maxSteps := 4000000) (disch := (first | assumption | exact List.not_mem_nil | exact Fr.refl _ _ | ((repeat (first | assumption | apply cur_alloc | apply cur_setB | apply cur_drew | apply cur_drewN)); done) | omega | (simp only [gz, Value.cells, oneC]; first | done | omega) | ((simp only [List.mem_cons, List.not_mem_nil, or_false, gz]); omega) | rfl)) only [↓gsd, gs, ev, Nat.reduceAdd, Nat.reduceEqDiff, oneC, Value.cells, Option.isNone, gt, frT_self, frT_drew, frT_drew0, frT_alloc, ↓hk7, d2]
  refine Find_spec h7' wf3' (by omega) fun w8 hf8 => ?_
  have cw8 := cur w8
  have h8 := h7'.frN hf8
  rw [fx6]
  have hlo := fx7
  generalize (findE (tF3.row kF) 8 0 4611686018427387904).getD entZ = ef at hlo ⊢
  unfold encEnt
  have d3 : decide ((3 : Int) = 3) = true := rfl
  simp (maxSteps := 4000000) (disch := (first | assumption | exact List.not_mem_nil | exact Fr.refl _ _ | ((repeat (first | assumption | apply cur_alloc | apply cur_setB | apply cur_drew | apply cur_drewN)); done) | omega | (simp only [gz, Value.cells, oneC]; first | done | omega) | ((simp only [List.mem_cons, List.not_mem_nil, or_false, gz]); omega) | rfl)) only [↓gsd, gs, ev, Nat.reduceAdd, Nat.reduceEqDiff, oneC, Value.cells, Option.isNone, gt, frT_self, frT_drew, frT_drew0, frT_alloc, ↓hk7, hlo, d3]
  generalize hW : World.alloc w8 _ = w9
  have hf9 : Fr [] w8 w9 := by rw [← hW]; (repeat (first | exact Fr.refl _ _ | assumption | with_reducible apply Fr.alloc | with_reducible apply Fr.drew | with_reducible refine Fr.setB ?_ _ _ (.inr (by first | omega | (simp only [gz]; omega))) | with_reducible refine Fr.setB ?_ _ _ (.inl (by first | assumption | simp)) | with_reducible refine Fr.trans' ?_ (by assumption)))
  clear hW
  have cw9 := cur w9
  refine of_spec (h8.frN hf9) wf3' (by omega) fun v10 w10 hown10 hf10 hb10 => ?_
  have cw10 := cur w10
  obtain ⟨va, vc, hv10⟩ := hown10.sl.form
  rw [fx8] at hv10
  simp (maxSteps := 4000000) (disch := (first | assumption | exact List.not_mem_nil | exact Fr.refl _ _ | ((repeat (first | assumption | apply cur_alloc | apply cur_setB | apply cur_drew | apply cur_drewN)); done) | omega | (simp only [gz, Value.cells, oneC]; first | done | omega) | ((simp only [List.mem_cons, List.not_mem_nil, or_false, gz]); omega) | rfl)) only [↓gsd, gs, ev, Nat.reduceAdd, Nat.reduceEqDiff, oneC, Value.cells, Option.isNone, gt, frT_self, frT_drew, frT_drew0, frT_alloc, ↓hk7, hv10, d1]
  refine all_spec ((h8.frN hf9).frN hf10) (by intro q; have := fx9; rw [q] at this; cases this) (by rw [fx9]; intro k hk; simp at hk; subst hk; decide) (by have := congrArg List.length fx9; simp at this; omega) (by rw [fxB]; omega) fun v11 w11 hown11 hb11 hf11 => ?_
  have cw11 := cur w11
  obtain ⟨va', vc', hv11⟩ := hown11.sl.form
  rw [fxB] at hv11
  simp (maxSteps := 4000000) (disch := (first | assumption | exact List.not_mem_nil | exact Fr.refl _ _ | ((repeat (first | assumption | apply cur_alloc | apply cur_setB | apply cur_drew | apply cur_drewN)); done) | omega | (simp only [gz, Value.cells, oneC]; first | done | omega) | ((simp only [List.mem_cons, List.not_mem_nil, or_false, gz]); omega) | rfl)) only [↓gsd, gs, ev, Nat.reduceAdd, Nat.reduceEqDiff, oneC, Value.cells, Option.isNone, gt, frT_self, frT_drew, frT_drew0, frT_alloc, ↓hk7, hv11, d1]
  exact hK _ ((((hF7.trans' hf8).trans' hf9).trans' hf10).trans' hf11)
end Go.Proofs.Ytldmkhakjnglmaa
