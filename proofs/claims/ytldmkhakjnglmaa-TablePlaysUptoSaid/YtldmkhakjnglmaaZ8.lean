/- TablePlays walked, for scripts of at most 1048576 steps. -/
import Derived.Test.YtldmkhakjnglmaaZ7
set_option linter.unusedVariables false
set_option linter.unusedSimpArgs false
set_option maxRecDepth 10000
namespace Go.Proofs.Ytldmkhakjnglmaa
open Go.VW
set_option maxHeartbeats 16000000 in
theorem plays10_law {w : World} {sv : Value} {ops : List Op10} {K : Value → World → Prop} (h : SlOf 12 encOp10 w sv ops) (hl : ops.length ≤ 1048576)
    (hK : ∀ w', Fr [] w w' → K (.bool true) w') : CallsN Try.prog 3 [sv] w K := by
  have cw := cur w
  obtain ⟨sa, sc, hsv⟩ := h.form
  refine call3 ?_
  simp (maxSteps := 4000000) (disch := (first | assumption | exact List.not_mem_nil | exact Fr.refl _ _ | ((repeat (first | assumption | apply cur_alloc | apply cur_setB | apply cur_drew | apply cur_drewN)); done) | omega | (simp only [gz, Value.cells, oneC]; first | done | omega) | ((simp only [List.mem_cons, List.not_mem_nil, or_false, gz]); omega) | rfl)) only [↓gsd, gs, ev, Nat.reduceAdd, Nat.reduceEqDiff, oneC, Value.cells, Option.isNone, gt, frT_self, frT_drew, frT_drew0, frT_alloc, ↓hk3]
  refine fixed_spec fun w1 hf1 => ?_
  have cw1 := cur w1
  simp (maxSteps := 4000000) (disch := (first | assumption | exact List.not_mem_nil | exact Fr.refl _ _ | ((repeat (first | assumption | apply cur_alloc | apply cur_setB | apply cur_drew | apply cur_drewN)); done) | omega | (simp only [gz, Value.cells, oneC]; first | done | omega) | ((simp only [List.mem_cons, List.not_mem_nil, or_false, gz]); omega) | rfl)) only [↓gsd, gs, ev, Nat.reduceAdd, Nat.reduceEqDiff, oneC, Value.cells, Option.isNone, gt, frT_self, frT_drew, frT_drew0, frT_alloc, ↓hk3]
  refine new_spec fun tb w2 hf2 htb h2 => ?_
  have cw2 := cur w2
  have hz1 := hf1.size
  have hz2 := hf2.size
  simp (maxSteps := 4000000) (disch := (first | assumption | exact List.not_mem_nil | exact Fr.refl _ _ | ((repeat (first | assumption | apply cur_alloc | apply cur_setB | apply cur_drew | apply cur_drewN)); done) | omega | (simp only [gz, Value.cells, oneC]; first | done | omega) | ((simp only [List.mem_cons, List.not_mem_nil, or_false, gz]); omega) | rfl)) only [↓gsd, gs, ev, Nat.reduceAdd, Nat.reduceEqDiff, oneC, Value.cells, Option.isNone, gt, frT_self, frT_drew, frT_drew0, frT_alloc, ↓hk3]
  generalize hW : World.alloc w2 _ = w3
  have hf3 : Fr [] w2 w3 := by rw [← hW]; (repeat (first | exact Fr.refl _ _ | assumption | with_reducible apply Fr.alloc | with_reducible apply Fr.drew | with_reducible refine Fr.setB ?_ _ _ (.inr (by first | omega | (simp only [gz]; omega))) | with_reducible refine Fr.setB ?_ _ _ (.inl (by first | assumption | simp)) | with_reducible refine Fr.trans' ?_ (by assumption)))
  have gr3 : w3.heap[w2.heap.size]? = some (.cells ([.slice none 0 0] : List Value).toArray 29 (0, 0)) := by rw [← hW]; exact get_alloc_new _ _
  clear hW
  have cw3 := cur w3
  have htl : tb < w2.heap.size := h2.lt tb (by simp)
  have hrl := lt_of_get _ _ gr3
  have hB0 : Both10 w w3 tb w2.heap.size [tb] [w2.heap.size] tF0 [] 0 := ⟨h2.frN hf3, ⟨⟨sliceZ, gr3, Own.nil, fun b hb => by simp [Value.ownBlock] at hb⟩, by simp, fun x hx => by simp at hx; omega⟩, TRel.new, TabI.new, Nat.le_refl _, fun x hx => by simp at hx; omega, fun x hx => by simp at hx; omega, fun x hx => by simp at hx; simp; omega, (hf1.trans' hf2).trans' hf3⟩
  refine for_intro ops.length 5 0 (fun i e w' => ∃ S R T L, e 0 = sv ∧ e 3 = .pointer (some ⟨tb, 0, none⟩) ∧ e 4 = .pointer (some ⟨w2.heap.size, 0, none⟩) ∧ Both10 w w' tb w2.heap.size S R T L i) ?_ (Nat.zero_le _) ?_ ?_
  · simp (maxSteps := 4000000) (disch := (first | assumption | exact List.not_mem_nil | exact Fr.refl _ _ | ((repeat (first | assumption | apply cur_alloc | apply cur_setB | apply cur_drew | apply cur_drewN)); done) | omega | (simp only [gz, Value.cells, oneC]; first | done | omega) | ((simp only [List.mem_cons, List.not_mem_nil, or_false, gz]); omega) | rfl)) only [↓gsd, gs, ev, Nat.reduceAdd, Nat.reduceEqDiff, oneC, Value.cells, Option.isNone]; rfl
  · refine ⟨[tb], [w2.heap.size], tF0, [], ?_⟩
    simp (maxSteps := 4000000) (disch := (first | assumption | exact List.not_mem_nil | exact Fr.refl _ _ | ((repeat (first | assumption | apply cur_alloc | apply cur_setB | apply cur_drew | apply cur_drewN)); done) | omega | (simp only [gz, Value.cells, oneC]; first | done | omega) | ((simp only [List.mem_cons, List.not_mem_nil, or_false, gz]); omega) | rfl)) only [↓gsd, gs, ev, Nat.reduceAdd, Nat.reduceEqDiff, oneC, Value.cells, Option.isNone]
    exact hB0
  rintro i e w4 kk hi e5 ⟨S, R, T, L, e0, e3, e4, hB⟩ hk
  have cw4 := cur w4
  by_cases hil : i < ops.length
  · have d : decide ((i : Int) < (ops.length : Int)) = true := decide_eq_true (by omega)
    obtain ⟨o, hoi⟩ : ∃ o, ops[i]? = some o := ⟨ops[i], List.getElem?_eq_getElem hil⟩
    obtain ⟨bb, off, cap, ob, hv1, hob, _, hrow, _⟩ := (h.frN hB.fr).read encOp10_len i o hoi
    have i0 : (0 : Int) ≤ (i : Int) := by omega
    have i1 : (i : Int) < (ops.length : Int) := by omega
    have wr : IntKind.i64.wrap ((i : Int) + 1) = (i : Int) + 1 := wrap64 (by omega) (by omega)
    simp (maxSteps := 4000000) (disch := (first | assumption | exact List.not_mem_nil | exact Fr.refl _ _ | ((repeat (first | assumption | apply cur_alloc | apply cur_setB | apply cur_drew | apply cur_drewN)); done) | omega | (simp only [gz, Value.cells, oneC]; first | done | omega) | ((simp only [List.mem_cons, List.not_mem_nil, or_false, gz]); omega) | rfl)) only [↓gsd, gs, ev, Nat.reduceAdd, Nat.reduceEqDiff, oneC, Value.cells, Option.isNone, gt, frT_self, frT_drew, frT_drew0, frT_alloc, ↓hk3, e0, e3, e4, e5, hv1, d, i0, i1, Int.toNat_natCast, hob, hrow]
    refine step10_spec (hB.frN (Fr.refl _ _).drew) (by omega) fun w5 S5 R5 T5 L5 hB5 _ _ _ => ?_
    have cw5 := cur w5
    obtain ⟨⟨v, g1, g2, g3⟩, g4, g5⟩ := id hB5.ref
    obtain ⟨va, vc, hvf⟩ := g2.sl.form
    rw [hvf] at g1
    have lt5 := lt_of_get _ _ g1
    have hlen := hB5.len
    simp (maxSteps := 4000000) (disch := (first | assumption | exact List.not_mem_nil | exact Fr.refl _ _ | ((repeat (first | assumption | apply cur_alloc | apply cur_setB | apply cur_drew | apply cur_drewN)); done) | omega | (simp only [gz, Value.cells, oneC]; first | done | omega) | ((simp only [List.mem_cons, List.not_mem_nil, or_false, gz]); omega) | rfl)) only [↓gsd, gs, ev, Nat.reduceAdd, Nat.reduceEqDiff, oneC, Value.cells, Option.isNone, gt, frT_self, frT_drew, frT_drew0, frT_alloc, ↓hk3, e0, e3, e4, e5, g1]
    refine len_spec hB5.tab ?_
    have dn : decide (T5.n = (L5.length : Int)) = true := decide_eq_true hB5.rel.n
    simp (maxSteps := 4000000) (disch := (first | assumption | exact List.not_mem_nil | exact Fr.refl _ _ | ((repeat (first | assumption | apply cur_alloc | apply cur_setB | apply cur_drew | apply cur_drewN)); done) | omega | (simp only [gz, Value.cells, oneC]; first | done | omega) | ((simp only [List.mem_cons, List.not_mem_nil, or_false, gz]); omega) | rfl)) only [↓gsd, gs, ev, Nat.reduceAdd, Nat.reduceEqDiff, oneC, Value.cells, Option.isNone, gt, frT_self, frT_drew, frT_drew0, frT_alloc, ↓hk3, e0, e3, e4, e5, dn]
    refine bytes_spec hB5.tab ?_
    try simp (maxSteps := 4000000) (disch := (first | assumption | exact List.not_mem_nil | exact Fr.refl _ _ | ((repeat (first | assumption | apply cur_alloc | apply cur_setB | apply cur_drew | apply cur_drewN)); done) | omega | (simp only [gz, Value.cells, oneC]; first | done | omega) | ((simp only [List.mem_cons, List.not_mem_nil, or_false, gz]); omega) | rfl)) only [↓gsd, gs, ev, Nat.reduceAdd, Nat.reduceEqDiff, oneC, Value.cells, Option.isNone, gt, frT_self, frT_drew, frT_drew0, frT_alloc, ↓hk3, e0, e3, e4, e5]
    refine rbytes_spec hB5.ref (by omega) fun w6 hf6 => ?_
    have cw6 := cur w6
    have db : decide (T5.bytes = sumE L5) = true := decide_eq_true (by rw [hB5.rel.bytes, sumE_eq _ hB5.rel.good (by omega)])
    simp (maxSteps := 4000000) (disch := (first | assumption | exact List.not_mem_nil | exact Fr.refl _ _ | ((repeat (first | assumption | apply cur_alloc | apply cur_setB | apply cur_drew | apply cur_drewN)); done) | omega | (simp only [gz, Value.cells, oneC]; first | done | omega) | ((simp only [List.mem_cons, List.not_mem_nil, or_false, gz]); omega) | rfl)) only [↓gsd, gs, ev, Nat.reduceAdd, Nat.reduceEqDiff, oneC, Value.cells, Option.isNone, gt, frT_self, frT_drew, frT_drew0, frT_alloc, ↓hk3, e0, e3, e4, e5, db, wr]
    refine hk _ _ hil (by simp (maxSteps := 4000000) (disch := (first | assumption | exact List.not_mem_nil | exact Fr.refl _ _ | ((repeat (first | assumption | apply cur_alloc | apply cur_setB | apply cur_drew | apply cur_drewN)); done) | omega | (simp only [gz, Value.cells, oneC]; first | done | omega) | ((simp only [List.mem_cons, List.not_mem_nil, or_false, gz]); omega) | rfl)) only [↓gsd, gs, ev, Nat.reduceAdd, Nat.reduceEqDiff, oneC, Value.cells, Option.isNone]) ⟨S5, R5, T5, L5, ?_⟩
    simp (maxSteps := 4000000) (disch := (first | assumption | exact List.not_mem_nil | exact Fr.refl _ _ | ((repeat (first | assumption | apply cur_alloc | apply cur_setB | apply cur_drew | apply cur_drewN)); done) | omega | (simp only [gz, Value.cells, oneC]; first | done | omega) | ((simp only [List.mem_cons, List.not_mem_nil, or_false, gz]); omega) | rfl)) only [↓gsd, gs, ev, Nat.reduceAdd, Nat.reduceEqDiff, oneC, Value.cells, Option.isNone, e0, e3, e4, hv1]
    exact hB5.frN hf6
  · have d : decide ((i : Int) < (ops.length : Int)) = false := decide_eq_false (by omega)
    obtain ⟨⟨v, g1, g2, g3⟩, g4, g5⟩ := id hB.ref
    obtain ⟨va, vc, hvf⟩ := g2.sl.form
    have g1' := g1
    rw [hvf] at g1'
    have lt5 := lt_of_get _ _ g1
    have hlen := hB.len
    have hI := hB.inv
    have hall := hB.rel.all hB.tab.nd
    simp (maxSteps := 4000000) (disch := (first | assumption | exact List.not_mem_nil | exact Fr.refl _ _ | ((repeat (first | assumption | apply cur_alloc | apply cur_setB | apply cur_drew | apply cur_drewN)); done) | omega | (simp only [gz, Value.cells, oneC]; first | done | omega) | ((simp only [List.mem_cons, List.not_mem_nil, or_false, gz]); omega) | rfl)) only [↓gsd, gs, ev, Nat.reduceAdd, Nat.reduceEqDiff, oneC, Value.cells, Option.isNone, gt, frT_self, frT_drew, frT_drew0, frT_alloc, ↓hk3, e0, e3, e4, e5, hsv, d, g1']
    refine all_spec' (hB.tab.frN (Fr.refl _ _).drew) hI.key (by have := hI.len; omega) (by rw [hall]; omega) fun va' w5 hown5 hb5 hf5 => ?_
    have cw5 := cur w5
    rw [hall] at hown5
    try simp (maxSteps := 4000000) (disch := (first | assumption | exact List.not_mem_nil | exact Fr.refl _ _ | ((repeat (first | assumption | apply cur_alloc | apply cur_setB | apply cur_drew | apply cur_drewN)); done) | omega | (simp only [gz, Value.cells, oneC]; first | done | omega) | ((simp only [List.mem_cons, List.not_mem_nil, or_false, gz]); omega) | rfl)) only [↓gsd, gs, ev, Nat.reduceAdd, Nat.reduceEqDiff, oneC, Value.cells, Option.isNone, gt, frT_self, frT_drew, frT_drew0, frT_alloc, ↓hk3, e0, e3, e4, e5, eq_true hf5]
    rw [← hvf]
    refine ⟨(Fr.refl _ _).drew.trans' hf5, ?_⟩
    refine same10_true hown5.sl ((g2.frN ((Fr.refl _ _).drew.trans' hf5)).sl) (by omega) fun w6 hf6 => ?_
    have cw6 := cur w6
    try simp (maxSteps := 4000000) (disch := (first | assumption | exact List.not_mem_nil | exact Fr.refl _ _ | ((repeat (first | assumption | apply cur_alloc | apply cur_setB | apply cur_drew | apply cur_drewN)); done) | omega | (simp only [gz, Value.cells, oneC]; first | done | omega) | ((simp only [List.mem_cons, List.not_mem_nil, or_false, gz]); omega) | rfl)) only [↓gsd, gs, ev, Nat.reduceAdd, Nat.reduceEqDiff, oneC, Value.cells, Option.isNone, gt, frT_self, frT_drew, frT_drew0, frT_alloc, ↓hk3, eq_true hf6]
    exact hK _ ((hB.fr.trans' ((Fr.refl _ _).drew.trans' hf5)).trans' hf6)
end Go.Proofs.Ytldmkhakjnglmaa
