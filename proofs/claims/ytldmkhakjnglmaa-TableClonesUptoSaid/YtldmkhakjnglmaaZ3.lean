/- The reference's table: Drop. The reference's facts: Good, Cost, Meets. The reference's table: Of, Get, Find, Bytes, Same, ahead. -/
import Derived.Test.YtldmkhakjnglmaaAH
import Derived.Test.YtldmkhakjnglmaaK3
import Derived.Test.YtldmkhakjnglmaaCG
set_option linter.unusedVariables false
set_option linter.unusedSimpArgs false
set_option maxRecDepth 10000
namespace Go.Proofs.Ytldmkhakjnglmaa
open Go.VW
structure RTab (w : World) (rb : Nat) (R : List Nat) (L : Ents) : Prop where
  ex : ∃ v, w.heap[rb]? = some (.cells ([v] : List Value).toArray 29 (0, 0)) ∧ Own 8 36 w v L.length (cellsOf encEnt L) ∧ ∀ b, v.ownBlock = some b → b ∈ R
  rb : rb ∈ R
  lt : ∀ x ∈ R, x < w.heap.size
theorem RTab.fr {w w' : World} {rb : Nat} {R M : List Nat} {L : Ents} (h : RTab w rb R L) (hf : Fr M w w') (hM : ∀ x ∈ M, x ∉ R) : RTab w' rb R L := by
  obtain ⟨⟨v, h1, h2, h3⟩, h4, h5⟩ := h
  exact ⟨⟨v, hf.get h1 fun hm => hM _ hm h4, h2.fr hf fun b hb e => hM b hb (h3 b e), h3⟩, h4, fun x hx => hf.lt (h5 x hx)⟩
theorem RTab.frN {w w' : World} {rb : Nat} {R : List Nat} {L : Ents} (h : RTab w rb R L) (hf : Fr [] w w') : RTab w' rb R L := h.fr hf (by simp)
/-- One entry behind a list of the reference's own. -/
theorem snocE {w : World} {v : Value} {l : Ents} {x : Ent} (h : Own 8 36 w v l.length (cellsOf encEnt l)) (hl : l.length ≤ 1000000000000) :
    ∃ v' w', (Builtin.append_ #[27, 27] 27 #[v, .slice (some ⟨w.heap.size, 0, none⟩) 1 1]).run Try.prog (w.alloc (.cells (encEnt x).toArray 36 (0, 0))) = .ok v' w' ∧ Own 8 36 w' v' (l ++ [x]).length (cellsOf encEnt (l ++ [x])) ∧ Fr (blkL v) w w' ∧ (v'.ownBlock = v.ownBlock ∨ ∃ b, v'.ownBlock = some b ∧ w.heap.size ≤ b) := by
  have h1 : Own 8 36 (w.alloc (.cells (encEnt x).toArray 36 (0, 0))) v l.length (cellsOf encEnt l) := h.fr (M := []) ((Fr.refl [] w).alloc _) (by simp)
  have hsl : Sl 8 (w.alloc (.cells (encEnt x).toArray 36 (0, 0))) (.slice (some ⟨w.heap.size, 0, none⟩) 1 1) 1 (cellsOf encEnt [x]) := ⟨rfl, .inr ⟨w.heap.size, 0, 1, (encEnt x).toArray, 36, (0, 0), rfl, get_alloc_new _ _, by rw [cellsOf_one]; rfl⟩⟩
  obtain ⟨v', w', hr, ho, hf, hb⟩ := ap27 (ty := 27) h1 hsl (cellsE_one [x]) (by omega)
  refine ⟨v', w', hr, by rw [List.length_append, cellsOf_append]; exact ho, Fr.trans (M' := blkL v) ((Fr.refl _ w).alloc _) hf fun y hy => .inl hy, ?_⟩
  rcases hb with hb | ⟨b, h1, h2⟩
  · exact .inl hb
  · refine .inr ⟨b, h1, ?_⟩
    rw [size_alloc] at h2; omega
def keepE (k : ByteArray) (lo : Int) (e : Ent) : Bool := !(decide (e.key = k) && decide (e.lo = lo))
set_option maxHeartbeats 4000000 in
theorem rdrop_spec {w : World} {rb : Nat} {R : List Nat} {L : Ents} {k : ByteArray} {lo : Int} {K : Value → World → Prop} (h : RTab w rb R L) (hl : L.length ≤ 1000000000)
    (hK : ∀ w' R', RTab w' rb R' (L.filter (keepE k lo)) → (∀ x ∈ R', x ∈ R ∨ w.heap.size ≤ x) → Fr R w w' → K (.bool (decide ((L.filter (keepE k lo)).length < L.length))) w') : CallsN Try.prog 23 [.pointer (some ⟨rb, 0, none⟩), .string k, .int .i64 lo] w K := by
  have cw := cur w
  obtain ⟨⟨v, h1, h2, h3⟩, h4, h5⟩ := id h
  have hlt := lt_of_get _ _ h1
  refine call23 ?_
  simp (maxSteps := 4000000) (disch := (first | assumption | exact List.not_mem_nil | exact Fr.refl _ _ | ((repeat (first | assumption | apply cur_alloc | apply cur_setB | apply cur_drew | apply cur_drewN)); done) | omega | (simp only [gz, Value.cells, oneC]; first | done | omega) | ((simp only [List.mem_cons, List.not_mem_nil, or_false, gz]); omega) | rfl)) only [↓gsd, gs, ev, Nat.reduceAdd, Nat.reduceEqDiff, oneC, Value.cells, Option.isNone, gt, frT_self, frT_drew, frT_drew0, frT_alloc, ↓hk23]
  refine for_intro L.length 8 0 (fun i e w' => ∃ vo, e 0 = .pointer (some ⟨rb, 0, none⟩) ∧ e 1 = .string k ∧ e 2 = .int .i64 lo ∧ e 7 = vo ∧ Own 8 36 w' vo ((L.take i).filter (keepE k lo)).length (cellsOf encEnt ((L.take i).filter (keepE k lo))) ∧ (∀ b, vo.ownBlock = some b → w.heap.size ≤ b) ∧ Fr [] w w') ?_ (Nat.zero_le _) ?_ ?_
  · simp (maxSteps := 4000000) (disch := (first | assumption | exact List.not_mem_nil | exact Fr.refl _ _ | ((repeat (first | assumption | apply cur_alloc | apply cur_setB | apply cur_drew | apply cur_drewN)); done) | omega | (simp only [gz, Value.cells, oneC]; first | done | omega) | ((simp only [List.mem_cons, List.not_mem_nil, or_false, gz]); omega) | rfl)) only [↓gsd, gs, ev, Nat.reduceAdd, Nat.reduceEqDiff, oneC, Value.cells, Option.isNone]
    rfl
  · refine ⟨sliceZ, ?_⟩
    simp (maxSteps := 4000000) (disch := (first | assumption | exact List.not_mem_nil | exact Fr.refl _ _ | ((repeat (first | assumption | apply cur_alloc | apply cur_setB | apply cur_drew | apply cur_drewN)); done) | omega | (simp only [gz, Value.cells, oneC]; first | done | omega) | ((simp only [List.mem_cons, List.not_mem_nil, or_false, gz]); omega) | rfl)) only [↓gsd, gs, ev, Nat.reduceAdd, Nat.reduceEqDiff, oneC, Value.cells, Option.isNone]
    exact ⟨Own.nil, fun b hb => by simp [Value.ownBlock] at hb, Fr.refl _ _⟩
  rintro i e w1 kk hi e8 ⟨vo, e0, e1, e2, e7, ho, hvo, hf⟩ hk
  have cw1 := cur w1
  have g1 := hf.getN h1
  have g2 : SlOf 8 encEnt w1 v L := (h2.frN hf).sl
  obtain ⟨va, vc, hvf⟩ := g2.form
  by_cases hil : i < L.length
  · have d : decide ((i : Int) < (L.length : Int)) = true := decide_eq_true (by omega)
    obtain ⟨y, hy⟩ : ∃ y, L[i]? = some y := ⟨L[i], List.getElem?_eq_getElem hil⟩
    obtain ⟨bb, off, cap, ob, hv1, hob, _, hrow, hcell⟩ := g2.read encEnt_len i y hy
    have i0 : (0 : Int) ≤ (i : Int) := by omega
    have i1 : (i : Int) < (L.length : Int) := by omega
    have wr : IntKind.i64.wrap ((i : Int) + 1) = (i : Int) + 1 := wrap64 (by omega) (by omega)
    have htk : (L.take (i + 1)).filter (keepE k lo) = (L.take i).filter (keepE k lo) ++ [y].filter (keepE k lo) := by rw [List.take_add_one, hy, List.filter_append]; rfl
    have hfl : ((L.take i).filter (keepE k lo)).length ≤ L.length := Nat.le_trans (List.length_filter_le _ _) (by rw [List.length_take]; omega)
    obtain ⟨v', w2, hr2, ho2, hf2, hb2⟩ := snocE (x := y) ho (by omega)
    have cw2 := cur w2
    have hF2 : Fr [] w w2 := hf.trans hf2 fun x hx => .inr (hvo x (mem_blkL.1 hx))
    have hk0 := fun orig K => hcell 0 (.string y.key) orig K rfl
    have hk3 := fun orig K => hcell 3 (.int .i64 y.lo) orig K rfl
    simp only [Nat.add_zero] at hk0
    by_cases hq : y.key = k ∧ y.lo = lo
    · have dk : decide (y.key = k) = true := decide_eq_true hq.1
      have dl : decide (y.lo = lo) = true := decide_eq_true hq.2
      have hkp : keepE k lo y = false := by unfold keepE; rw [dk, dl]; rfl
      rw [List.filter_cons, if_neg (by simp [hkp]), List.filter_nil, List.append_nil] at htk
      rw [← htk] at ho
      simp (maxSteps := 4000000) (disch := (first | assumption | exact List.not_mem_nil | exact Fr.refl _ _ | ((repeat (first | assumption | apply cur_alloc | apply cur_setB | apply cur_drew | apply cur_drewN)); done) | omega | (simp only [gz, Value.cells, oneC]; first | done | omega) | ((simp only [List.mem_cons, List.not_mem_nil, or_false, gz]); omega) | rfl)) only [↓gsd, gs, ev, Nat.reduceAdd, Nat.reduceEqDiff, oneC, Value.cells, Option.isNone, gt, frT_self, frT_drew, frT_drew0, frT_alloc, ↓hk23, e0, e1, e2, e7, e8, g1, hv1, d, i0, i1, Int.toNat_natCast, hob, hk0, hk3, hrow, wr, dk, dl]
      refine hk _ _ hil (by simp (maxSteps := 4000000) (disch := (first | assumption | exact List.not_mem_nil | exact Fr.refl _ _ | ((repeat (first | assumption | apply cur_alloc | apply cur_setB | apply cur_drew | apply cur_drewN)); done) | omega | (simp only [gz, Value.cells, oneC]; first | done | omega) | ((simp only [List.mem_cons, List.not_mem_nil, or_false, gz]); omega) | rfl)) only [↓gsd, gs, ev, Nat.reduceAdd, Nat.reduceEqDiff, oneC, Value.cells, Option.isNone]) ⟨vo, ?_⟩
      simp (maxSteps := 4000000) (disch := (first | assumption | exact List.not_mem_nil | exact Fr.refl _ _ | ((repeat (first | assumption | apply cur_alloc | apply cur_setB | apply cur_drew | apply cur_drewN)); done) | omega | (simp only [gz, Value.cells, oneC]; first | done | omega) | ((simp only [List.mem_cons, List.not_mem_nil, or_false, gz]); omega) | rfl)) only [↓gsd, gs, ev, Nat.reduceAdd, Nat.reduceEqDiff, oneC, Value.cells, Option.isNone, e0, e1, e2, e7]
      exact ⟨ho, hvo, hf⟩
    · have hkp : keepE k lo y = true := by unfold keepE; by_cases a : y.key = k <;> by_cases b : y.lo = lo <;> simp_all
      rw [List.filter_cons, if_pos hkp, List.filter_nil] at htk
      rw [← htk] at ho2
      have hvo2 : ∀ b, v'.ownBlock = some b → w.heap.size ≤ b := fun b hb => by
        have := hf.size
        rcases hb2 with q | ⟨b', q1, q2⟩
        · exact hvo b (q ▸ hb)
        · rw [q1] at hb; cases hb; omega
      have hfin : ∀ e' : Env, e' 0 = .pointer (some ⟨rb, 0, none⟩) → e' 1 = .string k → e' 2 = .int .i64 lo → e' 7 = v' → e' 8 = .int .i64 ((i : Int) + 1) → kk e' w2 := fun e' q0 q1 q2 q7 q8 => hk _ _ hil q8 ⟨v', q0, q1, q2, q7, ho2, hvo2, hF2⟩
      unfold encEnt at hrow hr2
      by_cases hq1 : y.key = k
      · have dk : decide (y.key = k) = true := decide_eq_true hq1
        have dl : decide (y.lo = lo) = false := decide_eq_false fun q => hq ⟨hq1, q⟩
        simp (maxSteps := 4000000) (disch := (first | assumption | exact List.not_mem_nil | exact Fr.refl _ _ | ((repeat (first | assumption | apply cur_alloc | apply cur_setB | apply cur_drew | apply cur_drewN)); done) | omega | (simp only [gz, Value.cells, oneC]; first | done | omega) | ((simp only [List.mem_cons, List.not_mem_nil, or_false, gz]); omega) | rfl)) only [↓gsd, gs, ev, Nat.reduceAdd, Nat.reduceEqDiff, oneC, Value.cells, Option.isNone, gt, frT_self, frT_drew, frT_drew0, frT_alloc, ↓hk23, e0, e1, e2, e7, e8, g1, hv1, d, i0, i1, Int.toNat_natCast, hob, hk0, hk3, hrow, wr, dk, dl, hr2]
        apply hfin <;> simp (maxSteps := 4000000) (disch := (first | assumption | exact List.not_mem_nil | exact Fr.refl _ _ | ((repeat (first | assumption | apply cur_alloc | apply cur_setB | apply cur_drew | apply cur_drewN)); done) | omega | (simp only [gz, Value.cells, oneC]; first | done | omega) | ((simp only [List.mem_cons, List.not_mem_nil, or_false, gz]); omega) | rfl)) only [↓gsd, gs, ev, Nat.reduceAdd, Nat.reduceEqDiff, oneC, Value.cells, Option.isNone, e0, e1, e2]
      · have dk : decide (y.key = k) = false := decide_eq_false hq1
        simp (maxSteps := 4000000) (disch := (first | assumption | exact List.not_mem_nil | exact Fr.refl _ _ | ((repeat (first | assumption | apply cur_alloc | apply cur_setB | apply cur_drew | apply cur_drewN)); done) | omega | (simp only [gz, Value.cells, oneC]; first | done | omega) | ((simp only [List.mem_cons, List.not_mem_nil, or_false, gz]); omega) | rfl)) only [↓gsd, gs, ev, Nat.reduceAdd, Nat.reduceEqDiff, oneC, Value.cells, Option.isNone, gt, frT_self, frT_drew, frT_drew0, frT_alloc, ↓hk23, e0, e1, e2, e7, e8, g1, hv1, d, i0, i1, Int.toNat_natCast, hob, hk0, hk3, hrow, wr, dk, hr2]
        apply hfin <;> simp (maxSteps := 4000000) (disch := (first | assumption | exact List.not_mem_nil | exact Fr.refl _ _ | ((repeat (first | assumption | apply cur_alloc | apply cur_setB | apply cur_drew | apply cur_drewN)); done) | omega | (simp only [gz, Value.cells, oneC]; first | done | omega) | ((simp only [List.mem_cons, List.not_mem_nil, or_false, gz]); omega) | rfl)) only [↓gsd, gs, ev, Nat.reduceAdd, Nat.reduceEqDiff, oneC, Value.cells, Option.isNone, e0, e1, e2]
  · have d : decide ((i : Int) < (L.length : Int)) = false := decide_eq_false (by omega)
    have hti : L.take i = L := List.take_of_length_le (by omega)
    rw [hti] at ho
    have g3 := (hf.getN h1)
    have hlt1 := lt_of_get _ _ g3
    obtain ⟨oa, oc, hvof⟩ := ho.sl.form
    rw [hvf] at g1
    rw [hvof] at e7
    have hd : decide ((((L.filter (keepE k lo)).length : Int)) < (L.length : Int)) = decide ((L.filter (keepE k lo)).length < L.length) := by simp
    simp (maxSteps := 4000000) (disch := (first | assumption | exact List.not_mem_nil | exact Fr.refl _ _ | ((repeat (first | assumption | apply cur_alloc | apply cur_setB | apply cur_drew | apply cur_drewN)); done) | omega | (simp only [gz, Value.cells, oneC]; first | done | omega) | ((simp only [List.mem_cons, List.not_mem_nil, or_false, gz]); omega) | rfl)) only [↓gsd, gs, ev, Nat.reduceAdd, Nat.reduceEqDiff, oneC, Value.cells, Option.isNone, gt, frT_self, frT_drew, frT_drew0, frT_alloc, ↓hk23, e0, e1, e2, e7, e8, g1, hvf, d, hd]
    rw [← hvof]
    generalize hW : World.setB w1 rb _ = w2
    have hf2 : Fr [rb] w1 w2 := by rw [← hW]; (repeat (first | exact Fr.refl _ _ | assumption | with_reducible apply Fr.alloc | with_reducible apply Fr.drew | with_reducible refine Fr.setB ?_ _ _ (.inr (by first | omega | (simp only [gz]; omega))) | with_reducible refine Fr.setB ?_ _ _ (.inl (by first | assumption | simp)) | with_reducible refine Fr.trans' ?_ (by assumption)))
    have h12 : w2.heap[rb]? = some (.cells ([vo] : List Value).toArray 29 (0, 0)) := by rw [← hW]; exact get_setB_same _ _ _ hlt1
    refine hK w2 (rb :: blkL vo) ⟨⟨vo, h12, ho.fr hf2 fun b hb e => ?_, fun b hb => List.mem_cons_of_mem _ (mem_blkL.2 hb)⟩, List.mem_cons_self .., fun x hx => ?_⟩ (fun x hx => ?_) ?_
    · simp at hb; subst hb; exact own_head ho g3 (by decide) e
    · rcases List.mem_cons.1 hx with rfl | hx
      · have := hf2.size; omega
      · have := ho.lt (mem_blkL.1 hx); have := hf2.size; omega
    · rcases List.mem_cons.1 hx with rfl | hx
      · exact .inl h4
      · exact .inr (hvo _ (mem_blkL.1 hx))
    · exact Fr.trans (M' := [rb]) (Fr.trans (M' := []) (Fr.refl _ w) hf (by simp)) hf2 fun x hx => by simp at hx; subst hx; exact .inl h4
end Go.Proofs.Ytldmkhakjnglmaa

set_option linter.unusedVariables false
set_option linter.unusedSimpArgs false
set_option maxRecDepth 10000
namespace Go.Proofs.Ytldmkhakjnglmaa
open Go.VW
theorem rempty_spec {s : Int × Int} {w : World} {K : Value → World → Prop} (hK : ∀ w', Fr [] w w' → K (.bool (spEmp s)) w') : CallsN Try.prog 66 [.agg (encSp s).toArray] w K := by
  have cw := cur w
  refine call66 ?_
  unfold encSp
  simp (maxSteps := 4000000) (disch := (first | assumption | exact List.not_mem_nil | exact Fr.refl _ _ | ((repeat (first | assumption | apply cur_alloc | apply cur_setB | apply cur_drew | apply cur_drewN)); done) | omega | (simp only [gz, Value.cells, oneC]; first | done | omega) | ((simp only [List.mem_cons, List.not_mem_nil, or_false, gz]); omega) | rfl)) only [↓gsd, gs, ev, Nat.reduceAdd, Nat.reduceEqDiff, oneC, Value.cells, Option.isNone, gt, frT_self, frT_drew, frT_drew0, frT_alloc, ↓hk66]
  refine call81 ?_
  have cw1 := cur (World.alloc w (.cells ([.int .i64 s.1, .int .i64 s.2] : List Value).toArray 84 (0, 0)))
  have d : decide (s.1 ≤ s.1) = true := decide_eq_true (Int.le_refl _)
  simp (maxSteps := 4000000) (disch := (first | assumption | exact List.not_mem_nil | exact Fr.refl _ _ | ((repeat (first | assumption | apply cur_alloc | apply cur_setB | apply cur_drew | apply cur_drewN)); done) | omega | (simp only [gz, Value.cells, oneC]; first | done | omega) | ((simp only [List.mem_cons, List.not_mem_nil, or_false, gz]); omega) | rfl)) only [↓gsd, gs, ev, Nat.reduceAdd, Nat.reduceEqDiff, oneC, Value.cells, Option.isNone, gt, frT_self, frT_drew, frT_drew0, frT_alloc, ↓hk81, d]
  have e : (!decide (s.1 < s.2)) = spEmp s := by unfold spEmp; by_cases q : s.1 < s.2 <;> simp [q] <;> omega
  simp (maxSteps := 4000000) (disch := (first | assumption | exact List.not_mem_nil | exact Fr.refl _ _ | ((repeat (first | assumption | apply cur_alloc | apply cur_setB | apply cur_drew | apply cur_drewN)); done) | omega | (simp only [gz, Value.cells, oneC]; first | done | omega) | ((simp only [List.mem_cons, List.not_mem_nil, or_false, gz]); omega) | rfl)) only [↓gsd, gs, ev, Nat.reduceAdd, Nat.reduceEqDiff, oneC, Value.cells, Option.isNone, gt, frT_self, frT_drew, frT_drew0, frT_alloc, ↓hk66, e]
  exact hK _ (by (repeat (first | exact Fr.refl _ _ | assumption | with_reducible apply Fr.alloc | with_reducible apply Fr.drew | with_reducible refine Fr.setB ?_ _ _ (.inr (by first | omega | (simp only [gz]; omega))) | with_reducible refine Fr.setB ?_ _ _ (.inl (by first | assumption | simp)) | with_reducible refine Fr.trans' ?_ (by assumption))))
theorem rof_spec {lo hi : Int} {w : World} {K : Value → World → Prop} (hK : ∀ w', Fr [] w w' → K (.agg (encSp (spOf lo hi)).toArray) w') : CallsN Try.prog 56 [.int .i64 lo, .int .i64 hi] w K := by
  have cw := cur w
  unfold encSp spOf at hK
  refine call56 ?_
  simp (maxSteps := 4000000) (disch := (first | assumption | exact List.not_mem_nil | exact Fr.refl _ _ | ((repeat (first | assumption | apply cur_alloc | apply cur_setB | apply cur_drew | apply cur_drewN)); done) | omega | (simp only [gz, Value.cells, oneC]; first | done | omega) | ((simp only [List.mem_cons, List.not_mem_nil, or_false, gz]); omega) | rfl)) only [↓gsd, gs, ev, Nat.reduceAdd, Nat.reduceEqDiff, oneC, Value.cells, Option.isNone, gt, frT_self, frT_drew, frT_drew0, frT_alloc, ↓hk56]
  generalize hW : World.alloc _ _ = w1
  have hf1 : Fr [] w w1 := by rw [← hW]; (repeat (first | exact Fr.refl _ _ | assumption | with_reducible apply Fr.alloc | with_reducible apply Fr.drew | with_reducible refine Fr.setB ?_ _ _ (.inr (by first | omega | (simp only [gz]; omega))) | with_reducible refine Fr.setB ?_ _ _ (.inl (by first | assumption | simp)) | with_reducible refine Fr.trans' ?_ (by assumption)))
  have hz1 : w1.heap.size = w.heap.size + 2 := by rw [← hW]; simp only [gz]
  have ga : w1.heap[w.heap.size]? = some (.cells ([.int .i64 0, .int .i64 0] : List Value).toArray 84 (0, 0)) := by rw [← hW]; simp (maxSteps := 4000000) (disch := (first | assumption | exact List.not_mem_nil | exact Fr.refl _ _ | ((repeat (first | assumption | apply cur_alloc | apply cur_setB | apply cur_drew | apply cur_drewN)); done) | omega | (simp only [gz, Value.cells, oneC]; first | done | omega) | ((simp only [List.mem_cons, List.not_mem_nil, or_false, gz]); omega) | rfl)) only [↓gsd, gs, ev, Nat.reduceAdd, Nat.reduceEqDiff, oneC, Value.cells, Option.isNone]
  have gb : w1.heap[w.heap.size + 1]? = some (.cells ([.int .i64 lo, .int .i64 hi] : List Value).toArray 84 (0, 0)) := by rw [← hW]; simp (maxSteps := 4000000) (disch := (first | assumption | exact List.not_mem_nil | exact Fr.refl _ _ | ((repeat (first | assumption | apply cur_alloc | apply cur_setB | apply cur_drew | apply cur_drewN)); done) | omega | (simp only [gz, Value.cells, oneC]; first | done | omega) | ((simp only [List.mem_cons, List.not_mem_nil, or_false, gz]); omega) | rfl)) only [↓gsd, gs, ev, Nat.reduceAdd, Nat.reduceEqDiff, oneC, Value.cells, Option.isNone]
  clear hW
  have cw1 := cur w1
  refine rempty_spec (s := (lo, hi)) fun w2 hf2 => ?_
  have cw2 := cur w2
  have ga2 := hf2.getN ga
  have gb2 := hf2.getN gb
  have la := lt_of_get _ _ ga2
  have lb := lt_of_get _ _ gb2
  by_cases h : hi ≤ lo
  · have d : spEmp (lo, hi) = true := decide_eq_true h
    rw [if_pos h] at hK
    simp (maxSteps := 4000000) (disch := (first | assumption | exact List.not_mem_nil | exact Fr.refl _ _ | ((repeat (first | assumption | apply cur_alloc | apply cur_setB | apply cur_drew | apply cur_drewN)); done) | omega | (simp only [gz, Value.cells, oneC]; first | done | omega) | ((simp only [List.mem_cons, List.not_mem_nil, or_false, gz]); omega) | rfl)) only [↓gsd, gs, ev, Nat.reduceAdd, Nat.reduceEqDiff, oneC, Value.cells, Option.isNone, gt, frT_self, frT_drew, frT_drew0, frT_alloc, ↓hk56, d, ga2]
    exact hK _ ((hf1.trans' hf2).setB _ _ (.inr (by omega)))
  · have d : spEmp (lo, hi) = false := decide_eq_false h
    rw [if_neg h] at hK
    simp (maxSteps := 4000000) (disch := (first | assumption | exact List.not_mem_nil | exact Fr.refl _ _ | ((repeat (first | assumption | apply cur_alloc | apply cur_setB | apply cur_drew | apply cur_drewN)); done) | omega | (simp only [gz, Value.cells, oneC]; first | done | omega) | ((simp only [List.mem_cons, List.not_mem_nil, or_false, gz]); omega) | rfl)) only [↓gsd, gs, ev, Nat.reduceAdd, Nat.reduceEqDiff, oneC, Value.cells, Option.isNone, gt, frT_self, frT_drew, frT_drew0, frT_alloc, ↓hk56, d, ga2, gb2]
    exact hK _ ((hf1.trans' hf2).setB _ _ (.inr (by omega)))
def rMeet1 (a b : Int × Int) : Int × Int := if (spEmp a || spEmp b) = true then (0, 0) else spMeet a b
set_option maxHeartbeats 4000000 in
theorem rmeet_spec {a b : Int × Int} {w : World} {K : Value → World → Prop} (hK : ∀ w', Fr [] w w' → K (.agg (encSp (rMeet1 a b)).toArray) w') : CallsN Try.prog 67 [.agg (encSp a).toArray, .agg (encSp b).toArray] w K := by
  have cw := cur w
  refine call67 ?_
  unfold encSp rMeet1 at *
  simp (maxSteps := 4000000) (disch := (first | assumption | exact List.not_mem_nil | exact Fr.refl _ _ | ((repeat (first | assumption | apply cur_alloc | apply cur_setB | apply cur_drew | apply cur_drewN)); done) | omega | (simp only [gz, Value.cells, oneC]; first | done | omega) | ((simp only [List.mem_cons, List.not_mem_nil, or_false, gz]); omega) | rfl)) only [↓gsd, gs, ev, Nat.reduceAdd, Nat.reduceEqDiff, oneC, Value.cells, Option.isNone, gt, frT_self, frT_drew, frT_drew0, frT_alloc, ↓hk67]
  generalize hW : World.alloc _ _ = w1
  have hf1 : Fr [] w w1 := by rw [← hW]; (repeat (first | exact Fr.refl _ _ | assumption | with_reducible apply Fr.alloc | with_reducible apply Fr.drew | with_reducible refine Fr.setB ?_ _ _ (.inr (by first | omega | (simp only [gz]; omega))) | with_reducible refine Fr.setB ?_ _ _ (.inl (by first | assumption | simp)) | with_reducible refine Fr.trans' ?_ (by assumption)))
  have hz1 : w1.heap.size = w.heap.size + 3 := by rw [← hW]; simp only [gz]
  have ga : w1.heap[w.heap.size]? = some (.cells ([.int .i64 a.1, .int .i64 a.2] : List Value).toArray 84 (0, 0)) := by rw [← hW]; simp (maxSteps := 4000000) (disch := (first | assumption | exact List.not_mem_nil | exact Fr.refl _ _ | ((repeat (first | assumption | apply cur_alloc | apply cur_setB | apply cur_drew | apply cur_drewN)); done) | omega | (simp only [gz, Value.cells, oneC]; first | done | omega) | ((simp only [List.mem_cons, List.not_mem_nil, or_false, gz]); omega) | rfl)) only [↓gsd, gs, ev, Nat.reduceAdd, Nat.reduceEqDiff, oneC, Value.cells, Option.isNone]
  have gb : w1.heap[w.heap.size + 1]? = some (.cells ([.int .i64 b.1, .int .i64 b.2] : List Value).toArray 84 (0, 0)) := by rw [← hW]; simp (maxSteps := 4000000) (disch := (first | assumption | exact List.not_mem_nil | exact Fr.refl _ _ | ((repeat (first | assumption | apply cur_alloc | apply cur_setB | apply cur_drew | apply cur_drewN)); done) | omega | (simp only [gz, Value.cells, oneC]; first | done | omega) | ((simp only [List.mem_cons, List.not_mem_nil, or_false, gz]); omega) | rfl)) only [↓gsd, gs, ev, Nat.reduceAdd, Nat.reduceEqDiff, oneC, Value.cells, Option.isNone]
  have gc : w1.heap[w.heap.size + 1 + 1]? = some (.cells ([.int .i64 0, .int .i64 0] : List Value).toArray 84 (0, 0)) := by rw [← hW]; simp (maxSteps := 4000000) (disch := (first | assumption | exact List.not_mem_nil | exact Fr.refl _ _ | ((repeat (first | assumption | apply cur_alloc | apply cur_setB | apply cur_drew | apply cur_drewN)); done) | omega | (simp only [gz, Value.cells, oneC]; first | done | omega) | ((simp only [List.mem_cons, List.not_mem_nil, or_false, gz]); omega) | rfl)) only [↓gsd, gs, ev, Nat.reduceAdd, Nat.reduceEqDiff, oneC, Value.cells, Option.isNone]
  clear hW
  have cw1 := cur w1
  refine rempty_spec (s := a) fun w2 hf2 => ?_
  have cw2 := cur w2
  have gb2 := hf2.getN gb
  have gc2 := hf2.getN gc
  have ga2 := hf2.getN ga
  have la := lt_of_get _ _ ga2
  have lb := lt_of_get _ _ gb2
  have lc := lt_of_get _ _ gc2
  cases q1 : spEmp a with
  | true =>
    simp only [q1, Bool.true_or, if_true] at hK
    simp (maxSteps := 4000000) (disch := (first | assumption | exact List.not_mem_nil | exact Fr.refl _ _ | ((repeat (first | assumption | apply cur_alloc | apply cur_setB | apply cur_drew | apply cur_drewN)); done) | omega | (simp only [gz, Value.cells, oneC]; first | done | omega) | ((simp only [List.mem_cons, List.not_mem_nil, or_false, gz]); omega) | rfl)) only [↓gsd, gs, ev, Nat.reduceAdd, Nat.reduceEqDiff, oneC, Value.cells, Option.isNone, gt, frT_self, frT_drew, frT_drew0, frT_alloc, ↓hk67, q1, gc2]
    exact hK _ ((hf1.trans' hf2).setB _ _ (.inr (by omega)))
  | false =>
    simp (maxSteps := 4000000) (disch := (first | assumption | exact List.not_mem_nil | exact Fr.refl _ _ | ((repeat (first | assumption | apply cur_alloc | apply cur_setB | apply cur_drew | apply cur_drewN)); done) | omega | (simp only [gz, Value.cells, oneC]; first | done | omega) | ((simp only [List.mem_cons, List.not_mem_nil, or_false, gz]); omega) | rfl)) only [↓gsd, gs, ev, Nat.reduceAdd, Nat.reduceEqDiff, oneC, Value.cells, Option.isNone, gt, frT_self, frT_drew, frT_drew0, frT_alloc, ↓hk67, q1, gb2]
    refine rempty_spec (s := b) fun w3 hf3 => ?_
    have cw3 := cur w3
    have ga3 := hf3.getN ga2
    have gb3 := hf3.getN gb2
    have gc3 := hf3.getN gc2
    have la3 := lt_of_get _ _ ga3
    have lb3 := lt_of_get _ _ gb3
    have lc3 := lt_of_get _ _ gc3
    cases q2 : spEmp b with
    | true =>
      simp only [q1, q2, Bool.or_true, if_true] at hK
      simp (maxSteps := 4000000) (disch := (first | assumption | exact List.not_mem_nil | exact Fr.refl _ _ | ((repeat (first | assumption | apply cur_alloc | apply cur_setB | apply cur_drew | apply cur_drewN)); done) | omega | (simp only [gz, Value.cells, oneC]; first | done | omega) | ((simp only [List.mem_cons, List.not_mem_nil, or_false, gz]); omega) | rfl)) only [↓gsd, gs, ev, Nat.reduceAdd, Nat.reduceEqDiff, oneC, Value.cells, Option.isNone, gt, frT_self, frT_drew, frT_drew0, frT_alloc, ↓hk67, q2, gc3]
      exact hK _ (((hf1.trans' hf2).trans' hf3).setB _ _ (.inr (by omega)))
    | false =>
      simp only [q1, q2, Bool.or_false, Bool.false_eq_true, if_false] at hK
      have hfin : ∀ (e : Env) (w4 : World), e 4 = .pointer (some ⟨w.heap.size + 1 + 1, 0, none⟩) → e 5 = .int .i64 (max a.1 b.1) → e 6 = .int .i64 (min a.2 b.2) → Fr [] w1 w4 → W3 Try.prog 33 V67 c67_5 (retQ Try.prog [.cell 4 84] K) e w4 := fun e w4 q4 q5 q6 hf4 => by
        have cw4 := cur w4
        simp (maxSteps := 4000000) (disch := (first | assumption | exact List.not_mem_nil | exact Fr.refl _ _ | ((repeat (first | assumption | apply cur_alloc | apply cur_setB | apply cur_drew | apply cur_drewN)); done) | omega | (simp only [gz, Value.cells, oneC]; first | done | omega) | ((simp only [List.mem_cons, List.not_mem_nil, or_false, gz]); omega) | rfl)) only [↓gsd, gs, ev, Nat.reduceAdd, Nat.reduceEqDiff, oneC, Value.cells, Option.isNone, gt, frT_self, frT_drew, frT_drew0, frT_alloc, ↓hk67, q4, q5, q6]
        refine rof_spec fun w5 hf5 => ?_
        have cw5 := cur w5
        have gc5 := hf5.getN (hf4.getN gc)
        have lc5 := lt_of_get _ _ gc5
        unfold encSp
        simp (maxSteps := 4000000) (disch := (first | assumption | exact List.not_mem_nil | exact Fr.refl _ _ | ((repeat (first | assumption | apply cur_alloc | apply cur_setB | apply cur_drew | apply cur_drewN)); done) | omega | (simp only [gz, Value.cells, oneC]; first | done | omega) | ((simp only [List.mem_cons, List.not_mem_nil, or_false, gz]); omega) | rfl)) only [↓gsd, gs, ev, Nat.reduceAdd, Nat.reduceEqDiff, oneC, Value.cells, Option.isNone, gt, frT_self, frT_drew, frT_drew0, frT_alloc, ↓hk67, q4, gc5]
        exact hK _ (((hf1.trans' hf4).trans' hf5).setB _ _ (.inr (by omega)))
      rcases Int.lt_or_le a.1 b.1 with h1 | h1
      · have d1 : decide (a.1 < b.1) = true := decide_eq_true h1
        rcases Int.lt_or_le b.2 a.2 with h2 | h2
        · have d2 : decide (b.2 < a.2) = true := decide_eq_true h2
          simp (maxSteps := 4000000) (disch := (first | assumption | exact List.not_mem_nil | exact Fr.refl _ _ | ((repeat (first | assumption | apply cur_alloc | apply cur_setB | apply cur_drew | apply cur_drewN)); done) | omega | (simp only [gz, Value.cells, oneC]; first | done | omega) | ((simp only [List.mem_cons, List.not_mem_nil, or_false, gz]); omega) | rfl)) only [↓gsd, gs, ev, Nat.reduceAdd, Nat.reduceEqDiff, oneC, Value.cells, Option.isNone, gt, frT_self, frT_drew, frT_drew0, frT_alloc, ↓c67_8_s, ↓c67_7_s, ↓c67_6_s, ↓c67_4_s, ↓c67_11_s, ↓c67_10_s, ↓c67_9_s, ↓c67_3_s, ↓c67_2_s, ↓c67_14_s, ↓c67_13_s, ↓c67_12_s, ↓c67_1_s, ↓c67_s, ↓w3t_67, q1, q2, ga3, gb3, d1, d2]
          refine hfin _ _ (by simp (maxSteps := 4000000) (disch := (first | assumption | exact List.not_mem_nil | exact Fr.refl _ _ | ((repeat (first | assumption | apply cur_alloc | apply cur_setB | apply cur_drew | apply cur_drewN)); done) | omega | (simp only [gz, Value.cells, oneC]; first | done | omega) | ((simp only [List.mem_cons, List.not_mem_nil, or_false, gz]); omega) | rfl)) only [↓gsd, gs, ev, Nat.reduceAdd, Nat.reduceEqDiff, oneC, Value.cells, Option.isNone]) (by simp (maxSteps := 4000000) (disch := (first | assumption | exact List.not_mem_nil | exact Fr.refl _ _ | ((repeat (first | assumption | apply cur_alloc | apply cur_setB | apply cur_drew | apply cur_drewN)); done) | omega | (simp only [gz, Value.cells, oneC]; first | done | omega) | ((simp only [List.mem_cons, List.not_mem_nil, or_false, gz]); omega) | rfl)) only [↓gsd, gs, ev, Nat.reduceAdd, Nat.reduceEqDiff, oneC, Value.cells, Option.isNone]; rw [show max a.1 b.1 = b.1 by omega]) (by simp (maxSteps := 4000000) (disch := (first | assumption | exact List.not_mem_nil | exact Fr.refl _ _ | ((repeat (first | assumption | apply cur_alloc | apply cur_setB | apply cur_drew | apply cur_drewN)); done) | omega | (simp only [gz, Value.cells, oneC]; first | done | omega) | ((simp only [List.mem_cons, List.not_mem_nil, or_false, gz]); omega) | rfl)) only [↓gsd, gs, ev, Nat.reduceAdd, Nat.reduceEqDiff, oneC, Value.cells, Option.isNone]; rw [show min a.2 b.2 = b.2 by omega]) ((hf2.trans' hf3).drew)
        · have d2 : decide (b.2 < a.2) = false := decide_eq_false (by omega)
          simp (maxSteps := 4000000) (disch := (first | assumption | exact List.not_mem_nil | exact Fr.refl _ _ | ((repeat (first | assumption | apply cur_alloc | apply cur_setB | apply cur_drew | apply cur_drewN)); done) | omega | (simp only [gz, Value.cells, oneC]; first | done | omega) | ((simp only [List.mem_cons, List.not_mem_nil, or_false, gz]); omega) | rfl)) only [↓gsd, gs, ev, Nat.reduceAdd, Nat.reduceEqDiff, oneC, Value.cells, Option.isNone, gt, frT_self, frT_drew, frT_drew0, frT_alloc, ↓c67_8_s, ↓c67_7_s, ↓c67_6_s, ↓c67_4_s, ↓c67_11_s, ↓c67_10_s, ↓c67_9_s, ↓c67_3_s, ↓c67_2_s, ↓c67_14_s, ↓c67_13_s, ↓c67_12_s, ↓c67_1_s, ↓c67_s, ↓w3t_67, q1, q2, ga3, gb3, d1, d2]
          refine hfin _ _ (by simp (maxSteps := 4000000) (disch := (first | assumption | exact List.not_mem_nil | exact Fr.refl _ _ | ((repeat (first | assumption | apply cur_alloc | apply cur_setB | apply cur_drew | apply cur_drewN)); done) | omega | (simp only [gz, Value.cells, oneC]; first | done | omega) | ((simp only [List.mem_cons, List.not_mem_nil, or_false, gz]); omega) | rfl)) only [↓gsd, gs, ev, Nat.reduceAdd, Nat.reduceEqDiff, oneC, Value.cells, Option.isNone]) (by simp (maxSteps := 4000000) (disch := (first | assumption | exact List.not_mem_nil | exact Fr.refl _ _ | ((repeat (first | assumption | apply cur_alloc | apply cur_setB | apply cur_drew | apply cur_drewN)); done) | omega | (simp only [gz, Value.cells, oneC]; first | done | omega) | ((simp only [List.mem_cons, List.not_mem_nil, or_false, gz]); omega) | rfl)) only [↓gsd, gs, ev, Nat.reduceAdd, Nat.reduceEqDiff, oneC, Value.cells, Option.isNone]; rw [show max a.1 b.1 = b.1 by omega]) (by simp (maxSteps := 4000000) (disch := (first | assumption | exact List.not_mem_nil | exact Fr.refl _ _ | ((repeat (first | assumption | apply cur_alloc | apply cur_setB | apply cur_drew | apply cur_drewN)); done) | omega | (simp only [gz, Value.cells, oneC]; first | done | omega) | ((simp only [List.mem_cons, List.not_mem_nil, or_false, gz]); omega) | rfl)) only [↓gsd, gs, ev, Nat.reduceAdd, Nat.reduceEqDiff, oneC, Value.cells, Option.isNone]; rw [show min a.2 b.2 = a.2 by omega]) ((hf2.trans' hf3).drew)
      · have d1 : decide (a.1 < b.1) = false := decide_eq_false (by omega)
        rcases Int.lt_or_le b.2 a.2 with h2 | h2
        · have d2 : decide (b.2 < a.2) = true := decide_eq_true h2
          simp (maxSteps := 4000000) (disch := (first | assumption | exact List.not_mem_nil | exact Fr.refl _ _ | ((repeat (first | assumption | apply cur_alloc | apply cur_setB | apply cur_drew | apply cur_drewN)); done) | omega | (simp only [gz, Value.cells, oneC]; first | done | omega) | ((simp only [List.mem_cons, List.not_mem_nil, or_false, gz]); omega) | rfl)) only [↓gsd, gs, ev, Nat.reduceAdd, Nat.reduceEqDiff, oneC, Value.cells, Option.isNone, gt, frT_self, frT_drew, frT_drew0, frT_alloc, ↓c67_8_s, ↓c67_7_s, ↓c67_6_s, ↓c67_4_s, ↓c67_11_s, ↓c67_10_s, ↓c67_9_s, ↓c67_3_s, ↓c67_2_s, ↓c67_14_s, ↓c67_13_s, ↓c67_12_s, ↓c67_1_s, ↓c67_s, ↓w3t_67, q1, q2, ga3, gb3, d1, d2]
          refine hfin _ _ (by simp (maxSteps := 4000000) (disch := (first | assumption | exact List.not_mem_nil | exact Fr.refl _ _ | ((repeat (first | assumption | apply cur_alloc | apply cur_setB | apply cur_drew | apply cur_drewN)); done) | omega | (simp only [gz, Value.cells, oneC]; first | done | omega) | ((simp only [List.mem_cons, List.not_mem_nil, or_false, gz]); omega) | rfl)) only [↓gsd, gs, ev, Nat.reduceAdd, Nat.reduceEqDiff, oneC, Value.cells, Option.isNone]) (by simp (maxSteps := 4000000) (disch := (first | assumption | exact List.not_mem_nil | exact Fr.refl _ _ | ((repeat (first | assumption | apply cur_alloc | apply cur_setB | apply cur_drew | apply cur_drewN)); done) | omega | (simp only [gz, Value.cells, oneC]; first | done | omega) | ((simp only [List.mem_cons, List.not_mem_nil, or_false, gz]); omega) | rfl)) only [↓gsd, gs, ev, Nat.reduceAdd, Nat.reduceEqDiff, oneC, Value.cells, Option.isNone]; rw [show max a.1 b.1 = a.1 by omega]) (by simp (maxSteps := 4000000) (disch := (first | assumption | exact List.not_mem_nil | exact Fr.refl _ _ | ((repeat (first | assumption | apply cur_alloc | apply cur_setB | apply cur_drew | apply cur_drewN)); done) | omega | (simp only [gz, Value.cells, oneC]; first | done | omega) | ((simp only [List.mem_cons, List.not_mem_nil, or_false, gz]); omega) | rfl)) only [↓gsd, gs, ev, Nat.reduceAdd, Nat.reduceEqDiff, oneC, Value.cells, Option.isNone]; rw [show min a.2 b.2 = b.2 by omega]) ((hf2.trans' hf3).drew)
        · have d2 : decide (b.2 < a.2) = false := decide_eq_false (by omega)
          simp (maxSteps := 4000000) (disch := (first | assumption | exact List.not_mem_nil | exact Fr.refl _ _ | ((repeat (first | assumption | apply cur_alloc | apply cur_setB | apply cur_drew | apply cur_drewN)); done) | omega | (simp only [gz, Value.cells, oneC]; first | done | omega) | ((simp only [List.mem_cons, List.not_mem_nil, or_false, gz]); omega) | rfl)) only [↓gsd, gs, ev, Nat.reduceAdd, Nat.reduceEqDiff, oneC, Value.cells, Option.isNone, gt, frT_self, frT_drew, frT_drew0, frT_alloc, ↓c67_8_s, ↓c67_7_s, ↓c67_6_s, ↓c67_4_s, ↓c67_11_s, ↓c67_10_s, ↓c67_9_s, ↓c67_3_s, ↓c67_2_s, ↓c67_14_s, ↓c67_13_s, ↓c67_12_s, ↓c67_1_s, ↓c67_s, ↓w3t_67, q1, q2, ga3, gb3, d1, d2]
          refine hfin _ _ (by simp (maxSteps := 4000000) (disch := (first | assumption | exact List.not_mem_nil | exact Fr.refl _ _ | ((repeat (first | assumption | apply cur_alloc | apply cur_setB | apply cur_drew | apply cur_drewN)); done) | omega | (simp only [gz, Value.cells, oneC]; first | done | omega) | ((simp only [List.mem_cons, List.not_mem_nil, or_false, gz]); omega) | rfl)) only [↓gsd, gs, ev, Nat.reduceAdd, Nat.reduceEqDiff, oneC, Value.cells, Option.isNone]) (by simp (maxSteps := 4000000) (disch := (first | assumption | exact List.not_mem_nil | exact Fr.refl _ _ | ((repeat (first | assumption | apply cur_alloc | apply cur_setB | apply cur_drew | apply cur_drewN)); done) | omega | (simp only [gz, Value.cells, oneC]; first | done | omega) | ((simp only [List.mem_cons, List.not_mem_nil, or_false, gz]); omega) | rfl)) only [↓gsd, gs, ev, Nat.reduceAdd, Nat.reduceEqDiff, oneC, Value.cells, Option.isNone]; rw [show max a.1 b.1 = a.1 by omega]) (by simp (maxSteps := 4000000) (disch := (first | assumption | exact List.not_mem_nil | exact Fr.refl _ _ | ((repeat (first | assumption | apply cur_alloc | apply cur_setB | apply cur_drew | apply cur_drewN)); done) | omega | (simp only [gz, Value.cells, oneC]; first | done | omega) | ((simp only [List.mem_cons, List.not_mem_nil, or_false, gz]); omega) | rfl)) only [↓gsd, gs, ev, Nat.reduceAdd, Nat.reduceEqDiff, oneC, Value.cells, Option.isNone]; rw [show min a.2 b.2 = a.2 by omega]) ((hf2.trans' hf3).drew)
theorem rmts_eq (a b : Int × Int) : (!spEmp (rMeet1 a b)) = spMts a b := by
  unfold rMeet1 spMts
  cases spEmp a <;> cases spEmp b <;> simp <;> rfl
theorem rmeets_spec {a b : Int × Int} {w : World} {K : Value → World → Prop} (hK : ∀ w', Fr [] w w' → K (.bool (spMts a b)) w') : CallsN Try.prog 54 [.agg (encSp a).toArray, .agg (encSp b).toArray] w K := by
  have cw := cur w
  rw [← rmts_eq] at hK
  refine call54 ?_
  unfold encSp
  simp (maxSteps := 4000000) (disch := (first | assumption | exact List.not_mem_nil | exact Fr.refl _ _ | ((repeat (first | assumption | apply cur_alloc | apply cur_setB | apply cur_drew | apply cur_drewN)); done) | omega | (simp only [gz, Value.cells, oneC]; first | done | omega) | ((simp only [List.mem_cons, List.not_mem_nil, or_false, gz]); omega) | rfl)) only [↓gsd, gs, ev, Nat.reduceAdd, Nat.reduceEqDiff, oneC, Value.cells, Option.isNone, gt, frT_self, frT_drew, frT_drew0, frT_alloc, ↓hk54]
  generalize hW : World.alloc _ _ = w1
  have hf1 : Fr [] w w1 := by rw [← hW]; (repeat (first | exact Fr.refl _ _ | assumption | with_reducible apply Fr.alloc | with_reducible apply Fr.drew | with_reducible refine Fr.setB ?_ _ _ (.inr (by first | omega | (simp only [gz]; omega))) | with_reducible refine Fr.setB ?_ _ _ (.inl (by first | assumption | simp)) | with_reducible refine Fr.trans' ?_ (by assumption)))
  clear hW
  have cw1 := cur w1
  refine rmeet_spec (a := a) (b := b) fun w2 hf2 => ?_
  have cw2 := cur w2
  try simp (maxSteps := 4000000) (disch := (first | assumption | exact List.not_mem_nil | exact Fr.refl _ _ | ((repeat (first | assumption | apply cur_alloc | apply cur_setB | apply cur_drew | apply cur_drewN)); done) | omega | (simp only [gz, Value.cells, oneC]; first | done | omega) | ((simp only [List.mem_cons, List.not_mem_nil, or_false, gz]); omega) | rfl)) only [↓gsd, gs, ev, Nat.reduceAdd, Nat.reduceEqDiff, oneC, Value.cells, Option.isNone, gt, frT_self, frT_drew, frT_drew0, frT_alloc, ↓hk54]
  refine rempty_spec fun w3 hf3 => ?_
  have cw3 := cur w3
  try simp (maxSteps := 4000000) (disch := (first | assumption | exact List.not_mem_nil | exact Fr.refl _ _ | ((repeat (first | assumption | apply cur_alloc | apply cur_setB | apply cur_drew | apply cur_drewN)); done) | omega | (simp only [gz, Value.cells, oneC]; first | done | omega) | ((simp only [List.mem_cons, List.not_mem_nil, or_false, gz]); omega) | rfl)) only [↓gsd, gs, ev, Nat.reduceAdd, Nat.reduceEqDiff, oneC, Value.cells, Option.isNone, gt, frT_self, frT_drew, frT_drew0, frT_alloc, ↓hk54]
  exact hK _ ((hf1.trans' hf2).trans' hf3)
theorem rpos_spec {x : Int} {w : World} {K : Value → World → Prop} (hK : K (.int .i64 (min (max x 0) 1099511627776)) w) : CallsN Try.prog 82 [.int .i64 x] w K := by
  have cw := cur w
  refine call82 ?_
  rcases Int.lt_or_le x 0 with h | h
  · have d : decide (x < 0) = true := decide_eq_true h
    rw [show min (max x 0) 1099511627776 = 0 by omega] at hK
    simp (maxSteps := 4000000) (disch := (first | assumption | exact List.not_mem_nil | exact Fr.refl _ _ | ((repeat (first | assumption | apply cur_alloc | apply cur_setB | apply cur_drew | apply cur_drewN)); done) | omega | (simp only [gz, Value.cells, oneC]; first | done | omega) | ((simp only [List.mem_cons, List.not_mem_nil, or_false, gz]); omega) | rfl)) only [↓gsd, gs, ev, Nat.reduceAdd, Nat.reduceEqDiff, oneC, Value.cells, Option.isNone, gt, frT_self, frT_drew, frT_drew0, frT_alloc, ↓hk82, d]
    exact hK
  · have d : decide (x < 0) = false := decide_eq_false (by omega)
    rcases Int.lt_or_le 1099511627776 x with h2 | h2
    · have d2 : decide (1099511627776 < x) = true := decide_eq_true h2
      rw [show min (max x 0) 1099511627776 = 1099511627776 by omega] at hK
      simp (maxSteps := 4000000) (disch := (first | assumption | exact List.not_mem_nil | exact Fr.refl _ _ | ((repeat (first | assumption | apply cur_alloc | apply cur_setB | apply cur_drew | apply cur_drewN)); done) | omega | (simp only [gz, Value.cells, oneC]; first | done | omega) | ((simp only [List.mem_cons, List.not_mem_nil, or_false, gz]); omega) | rfl)) only [↓gsd, gs, ev, Nat.reduceAdd, Nat.reduceEqDiff, oneC, Value.cells, Option.isNone, gt, frT_self, frT_drew, frT_drew0, frT_alloc, ↓hk82, d, d2]
      exact hK
    · have d2 : decide (1099511627776 < x) = false := decide_eq_false (by omega)
      rw [show min (max x 0) 1099511627776 = x by omega] at hK
      simp (maxSteps := 4000000) (disch := (first | assumption | exact List.not_mem_nil | exact Fr.refl _ _ | ((repeat (first | assumption | apply cur_alloc | apply cur_setB | apply cur_drew | apply cur_drewN)); done) | omega | (simp only [gz, Value.cells, oneC]; first | done | omega) | ((simp only [List.mem_cons, List.not_mem_nil, or_false, gz]); omega) | rfl)) only [↓gsd, gs, ev, Nat.reduceAdd, Nat.reduceEqDiff, oneC, Value.cells, Option.isNone, gt, frT_self, frT_drew, frT_drew0, frT_alloc, ↓hk82, d, d2]
      exact hK
theorem rend_spec {e : Ent} {x : Int} {w : World} {K : Value → World → Prop} (hK : ∀ w', Fr [] w w' → K (.int .i64 (if e.hi = 4611686018427387904 then behindI x else e.hi)) w') : CallsN Try.prog 68 [.agg (encFct e).toArray, .int .i64 x] w K := by
  have cw := cur w
  unfold behindI at hK
  have wr : IntKind.i64.wrap (min (max x 0) 1099511627776 + 1) = min (max x 0) 1099511627776 + 1 := wrap64 (by omega) (by omega)
  refine call68 ?_
  unfold encFct
  by_cases h : e.hi = 4611686018427387904
  · have d : decide (e.hi = 4611686018427387904) = true := decide_eq_true h
    rw [if_pos h] at hK
    simp (maxSteps := 4000000) (disch := (first | assumption | exact List.not_mem_nil | exact Fr.refl _ _ | ((repeat (first | assumption | apply cur_alloc | apply cur_setB | apply cur_drew | apply cur_drewN)); done) | omega | (simp only [gz, Value.cells, oneC]; first | done | omega) | ((simp only [List.mem_cons, List.not_mem_nil, or_false, gz]); omega) | rfl)) only [↓gsd, gs, ev, Nat.reduceAdd, Nat.reduceEqDiff, oneC, Value.cells, Option.isNone, gt, frT_self, frT_drew, frT_drew0, frT_alloc, ↓hk68, d]
    refine rpos_spec ?_
    try simp (maxSteps := 4000000) (disch := (first | assumption | exact List.not_mem_nil | exact Fr.refl _ _ | ((repeat (first | assumption | apply cur_alloc | apply cur_setB | apply cur_drew | apply cur_drewN)); done) | omega | (simp only [gz, Value.cells, oneC]; first | done | omega) | ((simp only [List.mem_cons, List.not_mem_nil, or_false, gz]); omega) | rfl)) only [↓gsd, gs, ev, Nat.reduceAdd, Nat.reduceEqDiff, oneC, Value.cells, Option.isNone, gt, frT_self, frT_drew, frT_drew0, frT_alloc, ↓hk68, wr]
    exact hK _ (by (repeat (first | exact Fr.refl _ _ | assumption | with_reducible apply Fr.alloc | with_reducible apply Fr.drew | with_reducible refine Fr.setB ?_ _ _ (.inr (by first | omega | (simp only [gz]; omega))) | with_reducible refine Fr.setB ?_ _ _ (.inl (by first | assumption | simp)) | with_reducible refine Fr.trans' ?_ (by assumption))))
  · have d : decide (e.hi = 4611686018427387904) = false := decide_eq_false h
    rw [if_neg h] at hK
    simp (maxSteps := 4000000) (disch := (first | assumption | exact List.not_mem_nil | exact Fr.refl _ _ | ((repeat (first | assumption | apply cur_alloc | apply cur_setB | apply cur_drew | apply cur_drewN)); done) | omega | (simp only [gz, Value.cells, oneC]; first | done | omega) | ((simp only [List.mem_cons, List.not_mem_nil, or_false, gz]); omega) | rfl)) only [↓gsd, gs, ev, Nat.reduceAdd, Nat.reduceEqDiff, oneC, Value.cells, Option.isNone, gt, frT_self, frT_drew, frT_drew0, frT_alloc, ↓hk68, d]
    exact hK _ (by (repeat (first | exact Fr.refl _ _ | assumption | with_reducible apply Fr.alloc | with_reducible apply Fr.drew | with_reducible refine Fr.setB ?_ _ _ (.inr (by first | omega | (simp only [gz]; omega))) | with_reducible refine Fr.setB ?_ _ _ (.inl (by first | assumption | simp)) | with_reducible refine Fr.trans' ?_ (by assumption))))
theorem rknown_spec {e : Ent} {x : Int} {w : World} {K : Value → World → Prop} (hK : ∀ w', Fr [] w w' → K (.agg (encSp (knownE e x)).toArray) w') : CallsN Try.prog 55 [.agg (encFct e).toArray, .int .i64 x] w K := by
  have cw := cur w
  have hk : knownE e x = spOf e.lo (if e.hi = 4611686018427387904 then behindI x else e.hi) := by unfold knownE; split <;> rfl
  rw [hk] at hK
  refine call55 ?_
  unfold encFct
  simp (maxSteps := 4000000) (disch := (first | assumption | exact List.not_mem_nil | exact Fr.refl _ _ | ((repeat (first | assumption | apply cur_alloc | apply cur_setB | apply cur_drew | apply cur_drewN)); done) | omega | (simp only [gz, Value.cells, oneC]; first | done | omega) | ((simp only [List.mem_cons, List.not_mem_nil, or_false, gz]); omega) | rfl)) only [↓gsd, gs, ev, Nat.reduceAdd, Nat.reduceEqDiff, oneC, Value.cells, Option.isNone, gt, frT_self, frT_drew, frT_drew0, frT_alloc, ↓hk55]
  generalize hW : World.alloc _ _ = w1
  have hf1 : Fr [] w w1 := by rw [← hW]; (repeat (first | exact Fr.refl _ _ | assumption | with_reducible apply Fr.alloc | with_reducible apply Fr.drew | with_reducible refine Fr.setB ?_ _ _ (.inr (by first | omega | (simp only [gz]; omega))) | with_reducible refine Fr.setB ?_ _ _ (.inl (by first | assumption | simp)) | with_reducible refine Fr.trans' ?_ (by assumption)))
  have gb : w1.heap[w.heap.size + 1]? = some (.cells ([.int .i64 0, .int .i64 0] : List Value).toArray 84 (0, 0)) := by rw [← hW]; simp (maxSteps := 4000000) (disch := (first | assumption | exact List.not_mem_nil | exact Fr.refl _ _ | ((repeat (first | assumption | apply cur_alloc | apply cur_setB | apply cur_drew | apply cur_drewN)); done) | omega | (simp only [gz, Value.cells, oneC]; first | done | omega) | ((simp only [List.mem_cons, List.not_mem_nil, or_false, gz]); omega) | rfl)) only [↓gsd, gs, ev, Nat.reduceAdd, Nat.reduceEqDiff, oneC, Value.cells, Option.isNone]
  clear hW
  have cw1 := cur w1
  refine rend_spec (e := e) fun w2 hf2 => ?_
  have cw2 := cur w2
  have hfd : Fr [] w1 w2 := (Fr.refl _ _).drew.trans' hf2
  simp (maxSteps := 4000000) (disch := (first | assumption | exact List.not_mem_nil | exact Fr.refl _ _ | ((repeat (first | assumption | apply cur_alloc | apply cur_setB | apply cur_drew | apply cur_drewN)); done) | omega | (simp only [gz, Value.cells, oneC]; first | done | omega) | ((simp only [List.mem_cons, List.not_mem_nil, or_false, gz]); omega) | rfl)) only [↓gsd, gs, ev, Nat.reduceAdd, Nat.reduceEqDiff, oneC, Value.cells, Option.isNone, gt, frT_self, frT_drew, frT_drew0, frT_alloc, ↓hk55, eq_true hf2, eq_true hfd]
  refine rof_spec fun w3 hf3 => ?_
  have cw3 := cur w3
  have gb3 := hf3.getN (hfd.getN gb)
  have lb3 := lt_of_get _ _ gb3
  unfold encSp at hK ⊢
  simp (maxSteps := 4000000) (disch := (first | assumption | exact List.not_mem_nil | exact Fr.refl _ _ | ((repeat (first | assumption | apply cur_alloc | apply cur_setB | apply cur_drew | apply cur_drewN)); done) | omega | (simp only [gz, Value.cells, oneC]; first | done | omega) | ((simp only [List.mem_cons, List.not_mem_nil, or_false, gz]); omega) | rfl)) only [↓gsd, gs, ev, Nat.reduceAdd, Nat.reduceEqDiff, oneC, Value.cells, Option.isNone, gt, frT_self, frT_drew, frT_drew0, frT_alloc, ↓hk55, gb3]
  exact hK _ (((hf1.trans' hfd).trans' hf3).setB _ _ (.inr (by omega)))
theorem rmeetsE_spec {e : Ent} {x lo hi : Int} {w : World} {K : Value → World → Prop} (hK : ∀ w', Fr [] w w' → K (.bool (meetsE e x lo hi)) w') : CallsN Try.prog 40 [.agg (encFct e).toArray, .int .i64 x, .agg ([.int .i64 lo, .int .i64 hi] : List Value).toArray] w K := by
  have cw := cur w
  refine call40 ?_
  unfold encFct
  simp (maxSteps := 4000000) (disch := (first | assumption | exact List.not_mem_nil | exact Fr.refl _ _ | ((repeat (first | assumption | apply cur_alloc | apply cur_setB | apply cur_drew | apply cur_drewN)); done) | omega | (simp only [gz, Value.cells, oneC]; first | done | omega) | ((simp only [List.mem_cons, List.not_mem_nil, or_false, gz]); omega) | rfl)) only [↓gsd, gs, ev, Nat.reduceAdd, Nat.reduceEqDiff, oneC, Value.cells, Option.isNone, gt, frT_self, frT_drew, frT_drew0, frT_alloc, ↓hk40]
  generalize hW : World.alloc _ _ = w1
  have hf1 : Fr [] w w1 := by rw [← hW]; (repeat (first | exact Fr.refl _ _ | assumption | with_reducible apply Fr.alloc | with_reducible apply Fr.drew | with_reducible refine Fr.setB ?_ _ _ (.inr (by first | omega | (simp only [gz]; omega))) | with_reducible refine Fr.setB ?_ _ _ (.inl (by first | assumption | simp)) | with_reducible refine Fr.trans' ?_ (by assumption)))
  clear hW
  have cw1 := cur w1
  refine rknown_spec (e := e) fun w2 hf2 => ?_
  have cw2 := cur w2
  have hfd : Fr [] w1 w2 := (Fr.refl _ _).drew.trans' hf2
  try simp (maxSteps := 4000000) (disch := (first | assumption | exact List.not_mem_nil | exact Fr.refl _ _ | ((repeat (first | assumption | apply cur_alloc | apply cur_setB | apply cur_drew | apply cur_drewN)); done) | omega | (simp only [gz, Value.cells, oneC]; first | done | omega) | ((simp only [List.mem_cons, List.not_mem_nil, or_false, gz]); omega) | rfl)) only [↓gsd, gs, ev, Nat.reduceAdd, Nat.reduceEqDiff, oneC, Value.cells, Option.isNone, gt, frT_self, frT_drew, frT_drew0, frT_alloc, ↓hk40, eq_true hf2, eq_true hfd]
  refine rof_spec fun w3 hf3 => ?_
  have cw3 := cur w3
  try simp (maxSteps := 4000000) (disch := (first | assumption | exact List.not_mem_nil | exact Fr.refl _ _ | ((repeat (first | assumption | apply cur_alloc | apply cur_setB | apply cur_drew | apply cur_drewN)); done) | omega | (simp only [gz, Value.cells, oneC]; first | done | omega) | ((simp only [List.mem_cons, List.not_mem_nil, or_false, gz]); omega) | rfl)) only [↓gsd, gs, ev, Nat.reduceAdd, Nat.reduceEqDiff, oneC, Value.cells, Option.isNone, gt, frT_self, frT_drew, frT_drew0, frT_alloc, ↓hk40]
  refine rmeets_spec fun w4 hf4 => ?_
  have cw4 := cur w4
  try simp (maxSteps := 4000000) (disch := (first | assumption | exact List.not_mem_nil | exact Fr.refl _ _ | ((repeat (first | assumption | apply cur_alloc | apply cur_setB | apply cur_drew | apply cur_drewN)); done) | omega | (simp only [gz, Value.cells, oneC]; first | done | omega) | ((simp only [List.mem_cons, List.not_mem_nil, or_false, gz]); omega) | rfl)) only [↓gsd, gs, ev, Nat.reduceAdd, Nat.reduceEqDiff, oneC, Value.cells, Option.isNone, gt, frT_self, frT_drew, frT_drew0, frT_alloc, ↓hk40]
  exact hK _ (((hf1.trans' hfd).trans' hf3).trans' hf4)
theorem rcost_spec {e : Ent} {w : World} {K : Value → World → Prop} (hK : ∀ w', Fr [] w w' → K (.int .i64 (costE e)) w') : CallsN Try.prog 27 [.agg (encFct e).toArray] w K := by
  have cw := cur w
  refine call27 ?_
  unfold encFct
  simp (maxSteps := 4000000) (disch := (first | assumption | exact List.not_mem_nil | exact Fr.refl _ _ | ((repeat (first | assumption | apply cur_alloc | apply cur_setB | apply cur_drew | apply cur_drewN)); done) | omega | (simp only [gz, Value.cells, oneC]; first | done | omega) | ((simp only [List.mem_cons, List.not_mem_nil, or_false, gz]); omega) | rfl)) only [↓gsd, gs, ev, Nat.reduceAdd, Nat.reduceEqDiff, oneC, Value.cells, Option.isNone, gt, frT_self, frT_drew, frT_drew0, frT_alloc, ↓hk27]
  exact hK _ ((Fr.refl _ _).alloc _)
def gkB (k : ByteArray) : Bool := !(decide (k = (⟨#[]⟩ : ByteArray)) || decide ((32 : Int) < (k.size : Int)))
def gvB (b : Bool) (d : ByteArray) : Bool := if b = true then !decide ((256 : Int) < (d.size : Int)) else decide (d = (⟨#[]⟩ : ByteArray))
theorem rgkey_spec {k : ByteArray} {w : World} {K : Value → World → Prop} (hK : K (.bool (gkB k)) w) : CallsN Try.prog 52 [.string k] w K := by
  have cw := cur w
  unfold gkB at hK
  refine call52 ?_
  have d3 : decide ((k.size : Int) ≤ 32) = !decide ((32 : Int) < (k.size : Int)) := by by_cases q : (32 : Int) < (k.size : Int) <;> simp [q] <;> omega
  cases d : decide (k = (⟨#[]⟩ : ByteArray)) with
  | true =>
    rw [d] at hK
    simp (maxSteps := 4000000) (disch := (first | assumption | exact List.not_mem_nil | exact Fr.refl _ _ | ((repeat (first | assumption | apply cur_alloc | apply cur_setB | apply cur_drew | apply cur_drewN)); done) | omega | (simp only [gz, Value.cells, oneC]; first | done | omega) | ((simp only [List.mem_cons, List.not_mem_nil, or_false, gz]); omega) | rfl)) only [↓gsd, gs, ev, Nat.reduceAdd, Nat.reduceEqDiff, oneC, Value.cells, Option.isNone, gt, frT_self, frT_drew, frT_drew0, frT_alloc, ↓hk52, d]
    exact hK
  | false =>
    rw [d, Bool.false_or] at hK
    simp (maxSteps := 4000000) (disch := (first | assumption | exact List.not_mem_nil | exact Fr.refl _ _ | ((repeat (first | assumption | apply cur_alloc | apply cur_setB | apply cur_drew | apply cur_drewN)); done) | omega | (simp only [gz, Value.cells, oneC]; first | done | omega) | ((simp only [List.mem_cons, List.not_mem_nil, or_false, gz]); omega) | rfl)) only [↓gsd, gs, ev, Nat.reduceAdd, Nat.reduceEqDiff, oneC, Value.cells, Option.isNone, gt, frT_self, frT_drew, frT_drew0, frT_alloc, ↓hk52, d, d3]
    exact hK
theorem rgval_spec {b : Bool} {d : ByteArray} {w : World} {K : Value → World → Prop} (hK : ∀ w', Fr [] w w' → K (.bool (gvB b d)) w') : CallsN Try.prog 53 [.agg ([.bool b, .string d] : List Value).toArray] w K := by
  have cw := cur w
  unfold gvB at hK
  refine call53 ?_
  have d3 : decide ((d.size : Int) ≤ 256) = !decide ((256 : Int) < (d.size : Int)) := by by_cases q : (256 : Int) < (d.size : Int) <;> simp [q] <;> omega
  cases b with
  | true =>
    simp only [if_true] at hK
    simp (maxSteps := 4000000) (disch := (first | assumption | exact List.not_mem_nil | exact Fr.refl _ _ | ((repeat (first | assumption | apply cur_alloc | apply cur_setB | apply cur_drew | apply cur_drewN)); done) | omega | (simp only [gz, Value.cells, oneC]; first | done | omega) | ((simp only [List.mem_cons, List.not_mem_nil, or_false, gz]); omega) | rfl)) only [↓gsd, gs, ev, Nat.reduceAdd, Nat.reduceEqDiff, oneC, Value.cells, Option.isNone, gt, frT_self, frT_drew, frT_drew0, frT_alloc, ↓hk53, d3]
    exact hK _ (by (repeat (first | exact Fr.refl _ _ | assumption | with_reducible apply Fr.alloc | with_reducible apply Fr.drew | with_reducible refine Fr.setB ?_ _ _ (.inr (by first | omega | (simp only [gz]; omega))) | with_reducible refine Fr.setB ?_ _ _ (.inl (by first | assumption | simp)) | with_reducible refine Fr.trans' ?_ (by assumption))))
  | false =>
    simp only [Bool.false_eq_true, if_false] at hK
    simp (maxSteps := 4000000) (disch := (first | assumption | exact List.not_mem_nil | exact Fr.refl _ _ | ((repeat (first | assumption | apply cur_alloc | apply cur_setB | apply cur_drew | apply cur_drewN)); done) | omega | (simp only [gz, Value.cells, oneC]; first | done | omega) | ((simp only [List.mem_cons, List.not_mem_nil, or_false, gz]); omega) | rfl)) only [↓gsd, gs, ev, Nat.reduceAdd, Nat.reduceEqDiff, oneC, Value.cells, Option.isNone, gt, frT_self, frT_drew, frT_drew0, frT_alloc, ↓hk53]
    exact hK _ (by (repeat (first | exact Fr.refl _ _ | assumption | with_reducible apply Fr.alloc | with_reducible apply Fr.drew | with_reducible refine Fr.setB ?_ _ _ (.inr (by first | omega | (simp only [gz]; omega))) | with_reducible refine Fr.setB ?_ _ _ (.inl (by first | assumption | simp)) | with_reducible refine Fr.trans' ?_ (by assumption))))
theorem gvB_eq (b : Bool) (d : ByteArray) : gvB b d = !(decide ((256 : Int) < (d.size : Int)) || (!b && !decide (d = (⟨#[]⟩ : ByteArray)))) := by
  unfold gvB
  cases b with
  | true => simp
  | false =>
    by_cases h : d = (⟨#[]⟩ : ByteArray)
    · subst h; rfl
    · simp [h]
theorem goodE_r (e : Ent) : goodE e = if (!gkB e.key || !gvB e.has e.data || decide (e.lo < (0 : Int)) || decide ((1099511627776 : Int) < e.lo) || decide (e.hi ≤ e.lo)) = true then false else decide (e.hi = (4611686018427387904 : Int)) || decide (e.hi ≤ (1099511627777 : Int)) := by
  unfold goodE
  rw [gvB_eq, Bool.not_not]
  unfold gkB
  rw [Bool.not_not]
  generalize (decide (e.key = (⟨#[]⟩ : ByteArray)) || decide ((32 : Int) < (e.key.size : Int))) = a
  generalize (decide ((256 : Int) < (e.data.size : Int)) || (!e.has && !decide (e.data = (⟨#[]⟩ : ByteArray)))) = b
  cases a with
  | true => simp
  | false =>
    cases b with
    | true => simp
    | false =>
      have hif : ∀ (c x : Bool), (if c = true then false else x) = (!c && x) := fun c x => by cases c <;> rfl
      simp only [hif, Bool.not_false, Bool.true_and, Bool.not_true, Bool.false_or]
      rw [Bool.eq_iff_iff]
      simp only [Bool.false_or, Bool.not_true, Bool.false_eq_true, if_false, Bool.and_eq_true, Bool.or_eq_true, Bool.not_eq_true', Bool.or_eq_false_iff, decide_eq_true_eq, decide_eq_false_iff_not]
      constructor
      · rintro ⟨⟨⟨h1, h2⟩, h3⟩, h4⟩; exact ⟨⟨⟨by omega, by omega⟩, by omega⟩, h4⟩
      · rintro ⟨⟨⟨h1, h2⟩, h3⟩, h4⟩; exact ⟨⟨⟨by omega, by omega⟩, by omega⟩, h4⟩
set_option maxHeartbeats 16000000 in
theorem rgood_spec {e : Ent} {w : World} {K : Value → World → Prop} (hK : ∀ w', Fr [] w w' → K (.bool (goodE e)) w') : CallsN Try.prog 38 [.agg (encFct e).toArray] w K := by
  have cw := cur w
  rw [goodE_r] at hK
  refine call38 ?_
  unfold encFct
  simp (maxSteps := 4000000) (disch := (first | assumption | exact List.not_mem_nil | exact Fr.refl _ _ | ((repeat (first | assumption | apply cur_alloc | apply cur_setB | apply cur_drew | apply cur_drewN)); done) | omega | (simp only [gz, Value.cells, oneC]; first | done | omega) | ((simp only [List.mem_cons, List.not_mem_nil, or_false, gz]); omega) | rfl)) only [↓gsd, gs, ev, Nat.reduceAdd, Nat.reduceEqDiff, oneC, Value.cells, Option.isNone, gt, frT_self, frT_drew, frT_drew0, frT_alloc, ↓hk38]
  generalize hW : World.alloc _ _ = w1
  have hf1 : Fr [] w w1 := by rw [← hW]; (repeat (first | exact Fr.refl _ _ | assumption | with_reducible apply Fr.alloc | with_reducible apply Fr.drew | with_reducible refine Fr.setB ?_ _ _ (.inr (by first | omega | (simp only [gz]; omega))) | with_reducible refine Fr.setB ?_ _ _ (.inl (by first | assumption | simp)) | with_reducible refine Fr.trans' ?_ (by assumption)))
  have ga : w1.heap[w.heap.size]? = some (.cells ([.string e.key, .bool e.has, .string e.data, .int .i64 e.lo, .int .i64 e.hi] : List Value).toArray 34 (0, 0)) := by rw [← hW]; simp (maxSteps := 4000000) (disch := (first | assumption | exact List.not_mem_nil | exact Fr.refl _ _ | ((repeat (first | assumption | apply cur_alloc | apply cur_setB | apply cur_drew | apply cur_drewN)); done) | omega | (simp only [gz, Value.cells, oneC]; first | done | omega) | ((simp only [List.mem_cons, List.not_mem_nil, or_false, gz]); omega) | rfl)) only [↓gsd, gs, ev, Nat.reduceAdd, Nat.reduceEqDiff, oneC, Value.cells, Option.isNone]
  clear hW
  have cw1 := cur w1
  have la := lt_of_get _ _ ga
  refine rgkey_spec ?_
  cases q0 : gkB e.key with
  | false =>
    simp only [q0, Bool.not_true, Bool.not_false, Bool.true_or, Bool.false_or, Bool.or_true, Bool.or_false, Bool.false_eq_true, if_true, if_false] at hK
    simp (maxSteps := 4000000) (disch := (first | assumption | exact List.not_mem_nil | exact Fr.refl _ _ | ((repeat (first | assumption | apply cur_alloc | apply cur_setB | apply cur_drew | apply cur_drewN)); done) | omega | (simp only [gz, Value.cells, oneC]; first | done | omega) | ((simp only [List.mem_cons, List.not_mem_nil, or_false, gz]); omega) | rfl)) only [↓gsd, gs, ev, Nat.reduceAdd, Nat.reduceEqDiff, oneC, Value.cells, Option.isNone, gt, frT_self, frT_drew, frT_drew0, frT_alloc, ↓hk38, q0]
    exact hK _ hf1
  | true =>
  simp (maxSteps := 4000000) (disch := (first | assumption | exact List.not_mem_nil | exact Fr.refl _ _ | ((repeat (first | assumption | apply cur_alloc | apply cur_setB | apply cur_drew | apply cur_drewN)); done) | omega | (simp only [gz, Value.cells, oneC]; first | done | omega) | ((simp only [List.mem_cons, List.not_mem_nil, or_false, gz]); omega) | rfl)) only [↓gsd, gs, ev, Nat.reduceAdd, Nat.reduceEqDiff, oneC, Value.cells, Option.isNone, gt, frT_self, frT_drew, frT_drew0, frT_alloc, ↓hk38, q0, ga]
  refine rgval_spec fun w2 hf2 => ?_
  have cw2 := cur w2
  have ga2 := hf2.getN ga
  have la2 := lt_of_get _ _ ga2
  have hF2 := hf1.trans' hf2
  cases q1 : gvB e.has e.data with
  | false =>
    simp only [q0, q1, Bool.not_true, Bool.not_false, Bool.true_or, Bool.false_or, Bool.or_true, Bool.or_false, Bool.false_eq_true, if_true, if_false] at hK
    simp (maxSteps := 4000000) (disch := (first | assumption | exact List.not_mem_nil | exact Fr.refl _ _ | ((repeat (first | assumption | apply cur_alloc | apply cur_setB | apply cur_drew | apply cur_drewN)); done) | omega | (simp only [gz, Value.cells, oneC]; first | done | omega) | ((simp only [List.mem_cons, List.not_mem_nil, or_false, gz]); omega) | rfl)) only [↓gsd, gs, ev, Nat.reduceAdd, Nat.reduceEqDiff, oneC, Value.cells, Option.isNone, gt, frT_self, frT_drew, frT_drew0, frT_alloc, ↓hk38, q0, q1]
    exact hK _ hF2
  | true =>
  cases q2 : decide (e.lo < (0 : Int)) with
  | true =>
    simp only [q0, q1, q2, Bool.not_true, Bool.not_false, Bool.true_or, Bool.false_or, Bool.or_true, Bool.or_false, Bool.false_eq_true, if_true, if_false] at hK
    simp (maxSteps := 4000000) (disch := (first | assumption | exact List.not_mem_nil | exact Fr.refl _ _ | ((repeat (first | assumption | apply cur_alloc | apply cur_setB | apply cur_drew | apply cur_drewN)); done) | omega | (simp only [gz, Value.cells, oneC]; first | done | omega) | ((simp only [List.mem_cons, List.not_mem_nil, or_false, gz]); omega) | rfl)) only [↓gsd, gs, ev, Nat.reduceAdd, Nat.reduceEqDiff, oneC, Value.cells, Option.isNone, gt, frT_self, frT_drew, frT_drew0, frT_alloc, ↓hk38, q0, q1, q2, ga2]
    exact hK _ hF2
  | false =>
  cases q3 : decide ((1099511627776 : Int) < e.lo) with
  | true =>
    simp only [q0, q1, q2, q3, Bool.not_true, Bool.not_false, Bool.true_or, Bool.false_or, Bool.or_true, Bool.or_false, Bool.false_eq_true, if_true, if_false] at hK
    simp (maxSteps := 4000000) (disch := (first | assumption | exact List.not_mem_nil | exact Fr.refl _ _ | ((repeat (first | assumption | apply cur_alloc | apply cur_setB | apply cur_drew | apply cur_drewN)); done) | omega | (simp only [gz, Value.cells, oneC]; first | done | omega) | ((simp only [List.mem_cons, List.not_mem_nil, or_false, gz]); omega) | rfl)) only [↓gsd, gs, ev, Nat.reduceAdd, Nat.reduceEqDiff, oneC, Value.cells, Option.isNone, gt, frT_self, frT_drew, frT_drew0, frT_alloc, ↓hk38, q0, q1, q2, q3, ga2]
    exact hK _ hF2
  | false =>
  cases q4 : decide (e.hi ≤ e.lo) with
  | true =>
    simp only [q0, q1, q2, q3, q4, Bool.not_true, Bool.not_false, Bool.true_or, Bool.false_or, Bool.or_true, Bool.or_false, Bool.false_eq_true, if_true, if_false] at hK
    simp (maxSteps := 4000000) (disch := (first | assumption | exact List.not_mem_nil | exact Fr.refl _ _ | ((repeat (first | assumption | apply cur_alloc | apply cur_setB | apply cur_drew | apply cur_drewN)); done) | omega | (simp only [gz, Value.cells, oneC]; first | done | omega) | ((simp only [List.mem_cons, List.not_mem_nil, or_false, gz]); omega) | rfl)) only [↓gsd, gs, ev, Nat.reduceAdd, Nat.reduceEqDiff, oneC, Value.cells, Option.isNone, gt, frT_self, frT_drew, frT_drew0, frT_alloc, ↓hk38, q0, q1, q2, q3, q4, ga2]
    exact hK _ hF2
  | false =>
  cases q5 : decide (e.hi = (4611686018427387904 : Int)) with
  | true =>
    simp only [q0, q1, q2, q3, q4, q5, Bool.not_true, Bool.not_false, Bool.true_or, Bool.false_or, Bool.or_true, Bool.or_false, Bool.false_eq_true, if_true, if_false] at hK
    simp (maxSteps := 4000000) (disch := (first | assumption | exact List.not_mem_nil | exact Fr.refl _ _ | ((repeat (first | assumption | apply cur_alloc | apply cur_setB | apply cur_drew | apply cur_drewN)); done) | omega | (simp only [gz, Value.cells, oneC]; first | done | omega) | ((simp only [List.mem_cons, List.not_mem_nil, or_false, gz]); omega) | rfl)) only [↓gsd, gs, ev, Nat.reduceAdd, Nat.reduceEqDiff, oneC, Value.cells, Option.isNone, gt, frT_self, frT_drew, frT_drew0, frT_alloc, ↓hk38, q0, q1, q2, q3, q4, q5, ga2]
    exact hK _ hF2
  | false =>
    simp only [q0, q1, q2, q3, q4, q5, Bool.not_true, Bool.not_false, Bool.true_or, Bool.false_or, Bool.or_true, Bool.or_false, Bool.false_eq_true, if_true, if_false] at hK
    simp (maxSteps := 4000000) (disch := (first | assumption | exact List.not_mem_nil | exact Fr.refl _ _ | ((repeat (first | assumption | apply cur_alloc | apply cur_setB | apply cur_drew | apply cur_drewN)); done) | omega | (simp only [gz, Value.cells, oneC]; first | done | omega) | ((simp only [List.mem_cons, List.not_mem_nil, or_false, gz]); omega) | rfl)) only [↓gsd, gs, ev, Nat.reduceAdd, Nat.reduceEqDiff, oneC, Value.cells, Option.isNone, gt, frT_self, frT_drew, frT_drew0, frT_alloc, ↓hk38, q0, q1, q2, q3, q4, q5, ga2]
    exact hK _ hF2
end Go.Proofs.Ytldmkhakjnglmaa

set_option linter.unusedVariables false
set_option linter.unusedSimpArgs false
set_option maxRecDepth 10000
namespace Go.Proofs.Ytldmkhakjnglmaa
open Go.VW
def aheadB (e : Ent) (k : ByteArray) (lo : Int) : Bool := Op.bytesLess e.key.toList k.toList || (decide (e.key = k) && decide (e.lo < lo))
theorem ahead_spec {e : Ent} {k : ByteArray} {lo : Int} {w : World} {K : Value → World → Prop} (hK : ∀ w', Fr [] w w' → K (.bool (aheadB e k lo)) w') : CallsN Try.prog 39 [.agg (encEnt e).toArray, .string k, .int .i64 lo] w K := by
  have cw := cur w
  unfold aheadB at hK
  refine call39 ?_
  unfold encEnt
  have hK' := hK _ ((Fr.refl _ w).alloc (.cells (encEnt e).toArray 36 (0, 0)))
  unfold encEnt at hK'
  cases q1 : Op.bytesLess e.key.toList k.toList with
  | true =>
    simp only [q1, Bool.true_or] at hK'
    simp (maxSteps := 4000000) (disch := (first | assumption | exact List.not_mem_nil | exact Fr.refl _ _ | ((repeat (first | assumption | apply cur_alloc | apply cur_setB | apply cur_drew | apply cur_drewN)); done) | omega | (simp only [gz, Value.cells, oneC]; first | done | omega) | ((simp only [List.mem_cons, List.not_mem_nil, or_false, gz]); omega) | rfl)) only [↓gsd, gs, ev, Nat.reduceAdd, Nat.reduceEqDiff, oneC, Value.cells, Option.isNone, gt, frT_self, frT_drew, frT_drew0, frT_alloc, ↓hk39, q1]
    exact hK'
  | false =>
    cases q2 : decide (e.key = k) with
    | false =>
      simp only [q1, q2, Bool.false_or, Bool.false_and] at hK'
      simp (maxSteps := 4000000) (disch := (first | assumption | exact List.not_mem_nil | exact Fr.refl _ _ | ((repeat (first | assumption | apply cur_alloc | apply cur_setB | apply cur_drew | apply cur_drewN)); done) | omega | (simp only [gz, Value.cells, oneC]; first | done | omega) | ((simp only [List.mem_cons, List.not_mem_nil, or_false, gz]); omega) | rfl)) only [↓gsd, gs, ev, Nat.reduceAdd, Nat.reduceEqDiff, oneC, Value.cells, Option.isNone, gt, frT_self, frT_drew, frT_drew0, frT_alloc, ↓hk39, q1, q2]
      exact hK'
    | true =>
      simp only [q1, q2, Bool.false_or, Bool.true_and] at hK'
      simp (maxSteps := 4000000) (disch := (first | assumption | exact List.not_mem_nil | exact Fr.refl _ _ | ((repeat (first | assumption | apply cur_alloc | apply cur_setB | apply cur_drew | apply cur_drewN)); done) | omega | (simp only [gz, Value.cells, oneC]; first | done | omega) | ((simp only [List.mem_cons, List.not_mem_nil, or_false, gz]); omega) | rfl)) only [↓gsd, gs, ev, Nat.reduceAdd, Nat.reduceEqDiff, oneC, Value.cells, Option.isNone, gt, frT_self, frT_drew, frT_drew0, frT_alloc, ↓hk39, q1, q2]
      exact hK'
theorem take_snoc {α : Type} {l : List α} {i : Nat} {y : α} (h : l[i]? = some y) : l.take (i + 1) = l.take i ++ [y] := by rw [List.take_add_one, h]; rfl
theorem filter_snoc {α : Type} {l : List α} {i : Nat} {y : α} (h : l[i]? = some y) (p : α → Bool) : (l.take (i + 1)).filter p = if p y = true then (l.take i).filter p ++ [y] else (l.take i).filter p := by
  rw [take_snoc h, List.filter_append, List.filter_cons, List.filter_nil]
  split
  · rfl
  · rw [List.append_nil]
theorem filter_le {α : Type} (l : List α) (i : Nat) (p : α → Bool) : ((l.take i).filter p).length ≤ l.length := Nat.le_trans (List.length_filter_le _ _) (by rw [List.length_take]; omega)
set_option maxHeartbeats 4000000 in
theorem rof10_spec {w : World} {rb : Nat} {R : List Nat} {L : Ents} {k : ByteArray} {K : Value → World → Prop} (h : RTab w rb R L) (hl : L.length ≤ 1000000000)
    (hK : ∀ v w', Own 8 36 w' v (L.filter fun e => decide (e.key = k)).length (cellsOf encEnt (L.filter fun e => decide (e.key = k))) → (∀ b, v.ownBlock = some b → w.heap.size ≤ b) → Fr [] w w' → K v w') : CallsN Try.prog 26 [.pointer (some ⟨rb, 0, none⟩), .string k] w K := by
  have cw := cur w
  obtain ⟨⟨v, h1, h2, h3⟩, h4, h5⟩ := id h
  refine call26 ?_
  simp (maxSteps := 4000000) (disch := (first | assumption | exact List.not_mem_nil | exact Fr.refl _ _ | ((repeat (first | assumption | apply cur_alloc | apply cur_setB | apply cur_drew | apply cur_drewN)); done) | omega | (simp only [gz, Value.cells, oneC]; first | done | omega) | ((simp only [List.mem_cons, List.not_mem_nil, or_false, gz]); omega) | rfl)) only [↓gsd, gs, ev, Nat.reduceAdd, Nat.reduceEqDiff, oneC, Value.cells, Option.isNone, gt, frT_self, frT_drew, frT_drew0, frT_alloc, ↓hk26]
  refine for_intro L.length 6 0 (fun i e w' => ∃ vo, e 0 = .pointer (some ⟨rb, 0, none⟩) ∧ e 1 = .string k ∧ e 5 = vo ∧ Own 8 36 w' vo ((L.take i).filter fun e => decide (e.key = k)).length (cellsOf encEnt ((L.take i).filter fun e => decide (e.key = k))) ∧ (∀ b, vo.ownBlock = some b → w.heap.size ≤ b) ∧ Fr [] w w') ?_ (Nat.zero_le _) ?_ ?_
  · simp (maxSteps := 4000000) (disch := (first | assumption | exact List.not_mem_nil | exact Fr.refl _ _ | ((repeat (first | assumption | apply cur_alloc | apply cur_setB | apply cur_drew | apply cur_drewN)); done) | omega | (simp only [gz, Value.cells, oneC]; first | done | omega) | ((simp only [List.mem_cons, List.not_mem_nil, or_false, gz]); omega) | rfl)) only [↓gsd, gs, ev, Nat.reduceAdd, Nat.reduceEqDiff, oneC, Value.cells, Option.isNone]; rfl
  · refine ⟨sliceZ, ?_⟩
    simp (maxSteps := 4000000) (disch := (first | assumption | exact List.not_mem_nil | exact Fr.refl _ _ | ((repeat (first | assumption | apply cur_alloc | apply cur_setB | apply cur_drew | apply cur_drewN)); done) | omega | (simp only [gz, Value.cells, oneC]; first | done | omega) | ((simp only [List.mem_cons, List.not_mem_nil, or_false, gz]); omega) | rfl)) only [↓gsd, gs, ev, Nat.reduceAdd, Nat.reduceEqDiff, oneC, Value.cells, Option.isNone]
    exact ⟨Own.nil, fun b hb => by simp [Value.ownBlock] at hb, Fr.refl _ _⟩
  rintro i e w1 kk hi e6 ⟨vo, e0, e1, e5, ho, hvo, hf⟩ hk
  have cw1 := cur w1
  have g1 := hf.getN h1
  have g2 : SlOf 8 encEnt w1 v L := (h2.frN hf).sl
  obtain ⟨va, vc, hvf⟩ := g2.form
  by_cases hil : i < L.length
  · have d : decide ((i : Int) < (L.length : Int)) = true := decide_eq_true (by omega)
    obtain ⟨y, hy⟩ : ∃ y, L[i]? = some y := ⟨L[i], List.getElem?_eq_getElem hil⟩
    obtain ⟨bb, off, cap, ob, hv1, hob, _, hrow, hcell⟩ := g2.read encEnt_len i y hy
    have i0 : (0 : Int) ≤ (i : Int) := by omega
    have i1 : (i : Int) < (L.length : Int) := by omega
    have wr : IntKind.i64.wrap ((i : Int) + 1) = (i : Int) + 1 := wrap64 (by omega) (by omega)
    have htk := filter_snoc hy fun e => decide (e.key = k)
    have hfl := filter_le L i fun e => decide (e.key = k)
    have hk0 := fun orig K => hcell 0 (.string y.key) orig K rfl
    simp only [Nat.add_zero] at hk0
    by_cases hq : y.key = k
    · have dk : decide (y.key = k) = true := decide_eq_true hq
      obtain ⟨v', w2, hr2, ho2, hf2, hb2⟩ := snocE (x := y) ho (by omega)
      have cw2 := cur w2
      rw [if_pos dk] at htk
      rw [← htk] at ho2
      unfold encEnt at hrow hr2
      simp (maxSteps := 4000000) (disch := (first | assumption | exact List.not_mem_nil | exact Fr.refl _ _ | ((repeat (first | assumption | apply cur_alloc | apply cur_setB | apply cur_drew | apply cur_drewN)); done) | omega | (simp only [gz, Value.cells, oneC]; first | done | omega) | ((simp only [List.mem_cons, List.not_mem_nil, or_false, gz]); omega) | rfl)) only [↓gsd, gs, ev, Nat.reduceAdd, Nat.reduceEqDiff, oneC, Value.cells, Option.isNone, gt, frT_self, frT_drew, frT_drew0, frT_alloc, ↓hk26, e0, e1, e5, e6, g1, hv1, d, i0, i1, Int.toNat_natCast, hob, hk0, hrow, wr, dk, hr2]
      refine hk _ _ hil (by simp (maxSteps := 4000000) (disch := (first | assumption | exact List.not_mem_nil | exact Fr.refl _ _ | ((repeat (first | assumption | apply cur_alloc | apply cur_setB | apply cur_drew | apply cur_drewN)); done) | omega | (simp only [gz, Value.cells, oneC]; first | done | omega) | ((simp only [List.mem_cons, List.not_mem_nil, or_false, gz]); omega) | rfl)) only [↓gsd, gs, ev, Nat.reduceAdd, Nat.reduceEqDiff, oneC, Value.cells, Option.isNone]) ⟨v', ?_⟩
      simp (maxSteps := 4000000) (disch := (first | assumption | exact List.not_mem_nil | exact Fr.refl _ _ | ((repeat (first | assumption | apply cur_alloc | apply cur_setB | apply cur_drew | apply cur_drewN)); done) | omega | (simp only [gz, Value.cells, oneC]; first | done | omega) | ((simp only [List.mem_cons, List.not_mem_nil, or_false, gz]); omega) | rfl)) only [↓gsd, gs, ev, Nat.reduceAdd, Nat.reduceEqDiff, oneC, Value.cells, Option.isNone, e0, e1]
      refine ⟨ho2, fun b hb => ?_, hf.trans hf2 fun x hx => .inr (hvo x (mem_blkL.1 hx))⟩
      have := hf.size
      rcases hb2 with q | ⟨b', q1, q2⟩
      · exact hvo b (q ▸ hb)
      · rw [q1] at hb; cases hb; omega
    · have dk : decide (y.key = k) = false := decide_eq_false hq
      rw [if_neg (by simp [dk])] at htk
      rw [← htk] at ho
      simp (maxSteps := 4000000) (disch := (first | assumption | exact List.not_mem_nil | exact Fr.refl _ _ | ((repeat (first | assumption | apply cur_alloc | apply cur_setB | apply cur_drew | apply cur_drewN)); done) | omega | (simp only [gz, Value.cells, oneC]; first | done | omega) | ((simp only [List.mem_cons, List.not_mem_nil, or_false, gz]); omega) | rfl)) only [↓gsd, gs, ev, Nat.reduceAdd, Nat.reduceEqDiff, oneC, Value.cells, Option.isNone, gt, frT_self, frT_drew, frT_drew0, frT_alloc, ↓hk26, e0, e1, e5, e6, g1, hv1, d, i0, i1, Int.toNat_natCast, hob, hk0, hrow, wr, dk]
      refine hk _ _ hil (by simp (maxSteps := 4000000) (disch := (first | assumption | exact List.not_mem_nil | exact Fr.refl _ _ | ((repeat (first | assumption | apply cur_alloc | apply cur_setB | apply cur_drew | apply cur_drewN)); done) | omega | (simp only [gz, Value.cells, oneC]; first | done | omega) | ((simp only [List.mem_cons, List.not_mem_nil, or_false, gz]); omega) | rfl)) only [↓gsd, gs, ev, Nat.reduceAdd, Nat.reduceEqDiff, oneC, Value.cells, Option.isNone]) ⟨vo, ?_⟩
      simp (maxSteps := 4000000) (disch := (first | assumption | exact List.not_mem_nil | exact Fr.refl _ _ | ((repeat (first | assumption | apply cur_alloc | apply cur_setB | apply cur_drew | apply cur_drewN)); done) | omega | (simp only [gz, Value.cells, oneC]; first | done | omega) | ((simp only [List.mem_cons, List.not_mem_nil, or_false, gz]); omega) | rfl)) only [↓gsd, gs, ev, Nat.reduceAdd, Nat.reduceEqDiff, oneC, Value.cells, Option.isNone, e0, e1, e5]
      exact ⟨ho, hvo, hf⟩
  · have d : decide ((i : Int) < (L.length : Int)) = false := decide_eq_false (by omega)
    have hti : L.take i = L := List.take_of_length_le (by omega)
    rw [hti] at ho
    rw [hvf] at g1
    simp (maxSteps := 4000000) (disch := (first | assumption | exact List.not_mem_nil | exact Fr.refl _ _ | ((repeat (first | assumption | apply cur_alloc | apply cur_setB | apply cur_drew | apply cur_drewN)); done) | omega | (simp only [gz, Value.cells, oneC]; first | done | omega) | ((simp only [List.mem_cons, List.not_mem_nil, or_false, gz]); omega) | rfl)) only [↓gsd, gs, ev, Nat.reduceAdd, Nat.reduceEqDiff, oneC, Value.cells, Option.isNone, gt, frT_self, frT_drew, frT_drew0, frT_alloc, ↓hk26, e0, e1, e5, e6, g1, d]
    exact hK _ _ ho hvo hf
theorem find_take {α : Type} {l : List α} {p : α → Bool} {i : Nat} (h : (l.take i).find? p = none) (hi : l.length ≤ i) : l.find? p = none := by rwa [List.take_of_length_le hi] at h
theorem find_here {α : Type} {l : List α} {p : α → Bool} {i : Nat} {y : α} (h : (l.take i).find? p = none) (hy : l[i]? = some y) (hp : p y = true) : l.find? p = some y := by
  obtain ⟨g1, g2⟩ := List.getElem?_eq_some_iff.1 hy
  conv => lhs; rw [← List.take_append_drop i l, List.drop_eq_getElem_cons g1, g2]
  rw [List.find?_append, h, Option.none_or, List.find?_cons_of_pos hp]
theorem find_next {α : Type} {l : List α} {p : α → Bool} {i : Nat} {y : α} (h : (l.take i).find? p = none) (hy : l[i]? = some y) (hp : p y = false) : (l.take (i + 1)).find? p = none := by
  rw [take_snoc hy, List.find?_append, h, Option.none_or, List.find?_cons_of_neg (by simp [hp])]; rfl
def getL (L : Ents) (k : ByteArray) (lo : Int) : Option Ent := L.find? fun e => decide (e.key = k) && decide (e.lo = lo)
set_option maxHeartbeats 4000000 in
theorem rget_spec {w : World} {rb : Nat} {R : List Nat} {L : Ents} {k : ByteArray} {lo : Int} {K : Value → World → Prop} (h : RTab w rb R L) (hl : L.length ≤ 1000000000)
    (hK : ∀ w', Fr [] w w' → K (.tuple ([.agg (encEnt ((getL L k lo).getD entZ)).toArray, .bool (getL L k lo).isSome] : List Value).toArray) w') : CallsN Try.prog 24 [.pointer (some ⟨rb, 0, none⟩), .string k, .int .i64 lo] w K := by
  have cw := cur w
  obtain ⟨⟨v, h1, h2, h3⟩, h4, h5⟩ := id h
  refine call24 ?_
  simp (maxSteps := 4000000) (disch := (first | assumption | exact List.not_mem_nil | exact Fr.refl _ _ | ((repeat (first | assumption | apply cur_alloc | apply cur_setB | apply cur_drew | apply cur_drewN)); done) | omega | (simp only [gz, Value.cells, oneC]; first | done | omega) | ((simp only [List.mem_cons, List.not_mem_nil, or_false, gz]); omega) | rfl)) only [↓gsd, gs, ev, Nat.reduceAdd, Nat.reduceEqDiff, oneC, Value.cells, Option.isNone, gt, frT_self, frT_drew, frT_drew0, frT_alloc, ↓hk24]
  generalize hW : World.alloc _ _ = w0
  have hf0 : Fr [] w w0 := by rw [← hW]; (repeat (first | exact Fr.refl _ _ | assumption | with_reducible apply Fr.alloc | with_reducible apply Fr.drew | with_reducible refine Fr.setB ?_ _ _ (.inr (by first | omega | (simp only [gz]; omega))) | with_reducible refine Fr.setB ?_ _ _ (.inl (by first | assumption | simp)) | with_reducible refine Fr.trans' ?_ (by assumption)))
  have ga : w0.heap[w.heap.size]? = some (.cells (encEnt entZ).toArray 36 (0, 0)) := by rw [← hW]; exact get_alloc_new _ _
  clear hW
  have cw0 := cur w0
  refine for_intro L.length 8 0 (fun i e w' => e 0 = .pointer (some ⟨rb, 0, none⟩) ∧ e 1 = .string k ∧ e 2 = .int .i64 lo ∧ e 6 = .pointer (some ⟨w.heap.size, 0, none⟩) ∧ ((L.take i).find? fun e => decide (e.key = k) && decide (e.lo = lo)) = none ∧ Fr [] w0 w') ?_ (Nat.zero_le _) ?_ ?_
  · simp (maxSteps := 4000000) (disch := (first | assumption | exact List.not_mem_nil | exact Fr.refl _ _ | ((repeat (first | assumption | apply cur_alloc | apply cur_setB | apply cur_drew | apply cur_drewN)); done) | omega | (simp only [gz, Value.cells, oneC]; first | done | omega) | ((simp only [List.mem_cons, List.not_mem_nil, or_false, gz]); omega) | rfl)) only [↓gsd, gs, ev, Nat.reduceAdd, Nat.reduceEqDiff, oneC, Value.cells, Option.isNone]; rfl
  · simp (maxSteps := 4000000) (disch := (first | assumption | exact List.not_mem_nil | exact Fr.refl _ _ | ((repeat (first | assumption | apply cur_alloc | apply cur_setB | apply cur_drew | apply cur_drewN)); done) | omega | (simp only [gz, Value.cells, oneC]; first | done | omega) | ((simp only [List.mem_cons, List.not_mem_nil, or_false, gz]); omega) | rfl)) only [↓gsd, gs, ev, Nat.reduceAdd, Nat.reduceEqDiff, oneC, Value.cells, Option.isNone]
    exact ⟨rfl, Fr.refl _ _⟩
  rintro i e w1 kk hi e8 ⟨e0, e1, e2, e6, hn, hf⟩ hk
  have cw1 := cur w1
  have hF := hf0.trans' hf
  have g1 := hF.getN h1
  have ga1 := hf.getN ga
  have la1 := lt_of_get _ _ ga1
  have g2 : SlOf 8 encEnt w1 v L := (h2.frN hF).sl
  obtain ⟨va, vc, hvf⟩ := g2.form
  by_cases hil : i < L.length
  · have d : decide ((i : Int) < (L.length : Int)) = true := decide_eq_true (by omega)
    obtain ⟨y, hy⟩ : ∃ y, L[i]? = some y := ⟨L[i], List.getElem?_eq_getElem hil⟩
    obtain ⟨bb, off, cap, ob, hv1, hob, _, hrow, hcell⟩ := g2.read encEnt_len i y hy
    have i0 : (0 : Int) ≤ (i : Int) := by omega
    have i1 : (i : Int) < (L.length : Int) := by omega
    have wr : IntKind.i64.wrap ((i : Int) + 1) = (i : Int) + 1 := wrap64 (by omega) (by omega)
    have hk0 := fun orig K => hcell 0 (.string y.key) orig K rfl
    have hk3 := fun orig K => hcell 3 (.int .i64 y.lo) orig K rfl
    simp only [Nat.add_zero] at hk0
    have hno : (decide (y.key = k) && decide (y.lo = lo)) = false → ∀ e' : Env, e' 0 = .pointer (some ⟨rb, 0, none⟩) → e' 1 = .string k → e' 2 = .int .i64 lo → e' 6 = .pointer (some ⟨w.heap.size, 0, none⟩) → e' 8 = .int .i64 ((i : Int) + 1) → kk e' w1 := fun hp e' q0 q1 q2 q6 q8 => hk _ _ hil q8 ⟨q0, q1, q2, q6, find_next hn hy hp, hf⟩
    cases dk : decide (y.key = k) with
    | false =>
      simp (maxSteps := 4000000) (disch := (first | assumption | exact List.not_mem_nil | exact Fr.refl _ _ | ((repeat (first | assumption | apply cur_alloc | apply cur_setB | apply cur_drew | apply cur_drewN)); done) | omega | (simp only [gz, Value.cells, oneC]; first | done | omega) | ((simp only [List.mem_cons, List.not_mem_nil, or_false, gz]); omega) | rfl)) only [↓gsd, gs, ev, Nat.reduceAdd, Nat.reduceEqDiff, oneC, Value.cells, Option.isNone, gt, frT_self, frT_drew, frT_drew0, frT_alloc, ↓hk24, e0, e1, e2, e6, e8, g1, hv1, d, i0, i1, Int.toNat_natCast, hob, hk0, hk3, hrow, wr, dk]
      apply hno (by rw [dk]; rfl) <;> simp (maxSteps := 4000000) (disch := (first | assumption | exact List.not_mem_nil | exact Fr.refl _ _ | ((repeat (first | assumption | apply cur_alloc | apply cur_setB | apply cur_drew | apply cur_drewN)); done) | omega | (simp only [gz, Value.cells, oneC]; first | done | omega) | ((simp only [List.mem_cons, List.not_mem_nil, or_false, gz]); omega) | rfl)) only [↓gsd, gs, ev, Nat.reduceAdd, Nat.reduceEqDiff, oneC, Value.cells, Option.isNone, e0, e1, e2, e6]
    | true =>
      cases dl : decide (y.lo = lo) with
      | false =>
        simp (maxSteps := 4000000) (disch := (first | assumption | exact List.not_mem_nil | exact Fr.refl _ _ | ((repeat (first | assumption | apply cur_alloc | apply cur_setB | apply cur_drew | apply cur_drewN)); done) | omega | (simp only [gz, Value.cells, oneC]; first | done | omega) | ((simp only [List.mem_cons, List.not_mem_nil, or_false, gz]); omega) | rfl)) only [↓gsd, gs, ev, Nat.reduceAdd, Nat.reduceEqDiff, oneC, Value.cells, Option.isNone, gt, frT_self, frT_drew, frT_drew0, frT_alloc, ↓hk24, e0, e1, e2, e6, e8, g1, hv1, d, i0, i1, Int.toNat_natCast, hob, hk0, hk3, hrow, wr, dk, dl]
        apply hno (by rw [dk, dl]; rfl) <;> simp (maxSteps := 4000000) (disch := (first | assumption | exact List.not_mem_nil | exact Fr.refl _ _ | ((repeat (first | assumption | apply cur_alloc | apply cur_setB | apply cur_drew | apply cur_drewN)); done) | omega | (simp only [gz, Value.cells, oneC]; first | done | omega) | ((simp only [List.mem_cons, List.not_mem_nil, or_false, gz]); omega) | rfl)) only [↓gsd, gs, ev, Nat.reduceAdd, Nat.reduceEqDiff, oneC, Value.cells, Option.isNone, e0, e1, e2, e6]
      | true =>
        have hg : getL L k lo = some y := find_here hn hy (by rw [dk, dl]; rfl)
        rw [hg] at hK
        unfold encEnt at hrow hK ga1
        simp only [Option.getD_some, Option.isSome_some] at hK
        simp (maxSteps := 4000000) (disch := (first | assumption | exact List.not_mem_nil | exact Fr.refl _ _ | ((repeat (first | assumption | apply cur_alloc | apply cur_setB | apply cur_drew | apply cur_drewN)); done) | omega | (simp only [gz, Value.cells, oneC]; first | done | omega) | ((simp only [List.mem_cons, List.not_mem_nil, or_false, gz]); omega) | rfl)) only [↓gsd, gs, ev, Nat.reduceAdd, Nat.reduceEqDiff, oneC, Value.cells, Option.isNone, gt, frT_self, frT_drew, frT_drew0, frT_alloc, ↓hk24, e0, e1, e2, e6, e8, g1, hv1, d, i0, i1, Int.toNat_natCast, hob, hk0, hk3, hrow, wr, dk, dl, ga1]
        exact hK _ (hF.setB _ _ (.inr (Nat.le_refl _)))
  · have d : decide ((i : Int) < (L.length : Int)) = false := decide_eq_false (by omega)
    have hg : getL L k lo = none := find_take hn (by omega)
    rw [hg] at hK
    rw [hvf] at g1
    unfold encEnt at hK ga1
    simp only [Option.getD_none, Option.isSome_none] at hK
    simp (maxSteps := 4000000) (disch := (first | assumption | exact List.not_mem_nil | exact Fr.refl _ _ | ((repeat (first | assumption | apply cur_alloc | apply cur_setB | apply cur_drew | apply cur_drewN)); done) | omega | (simp only [gz, Value.cells, oneC]; first | done | omega) | ((simp only [List.mem_cons, List.not_mem_nil, or_false, gz]); omega) | rfl)) only [↓gsd, gs, ev, Nat.reduceAdd, Nat.reduceEqDiff, oneC, Value.cells, Option.isNone, gt, frT_self, frT_drew, frT_drew0, frT_alloc, ↓hk24, e0, e1, e2, e6, e8, g1, d, ga1]
    exact hK _ (hF.setB _ _ (.inr (Nat.le_refl _)))
end Go.Proofs.Ytldmkhakjnglmaa
