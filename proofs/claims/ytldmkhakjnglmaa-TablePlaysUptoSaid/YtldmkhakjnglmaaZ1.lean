/- The reference's table: Drop. -/
import Derived.Test.YtldmkhakjnglmaaAH
import Derived.Test.YtldmkhakjnglmaaK3
import Derived.Test.YtldmkhakjnglmaaCG
set_option linter.unusedVariables false
set_option linter.unusedSimpArgs false
set_option maxRecDepth 10000
namespace Go.Proofs.Ytldmkhakjnglmaa
open Go.VW
structure RTab (w : World) (rb : Nat) (R : List Nat) (L : Ents) : Prop where
  ex : ∃ v, w.heap[rb]? = some (.cells ([v] : List Value).toArray 29 (0, 0)) ∧ Own 8 36 w v L.length (cellsOf encEnt L) ∧ ∀ b, v.ownBlock = some b → b ∈ R
  rb : rb ∈ R
  lt : ∀ x ∈ R, x < w.heap.size
theorem RTab.fr {w w' : World} {rb : Nat} {R M : List Nat} {L : Ents} (h : RTab w rb R L) (hf : Fr M w w') (hM : ∀ x ∈ M, x ∉ R) : RTab w' rb R L := by
  obtain ⟨⟨v, h1, h2, h3⟩, h4, h5⟩ := h
  exact ⟨⟨v, hf.get h1 fun hm => hM _ hm h4, h2.fr hf fun b hb e => hM b hb (h3 b e), h3⟩, h4, fun x hx => hf.lt (h5 x hx)⟩
theorem RTab.frN {w w' : World} {rb : Nat} {R : List Nat} {L : Ents} (h : RTab w rb R L) (hf : Fr [] w w') : RTab w' rb R L := h.fr hf (by simp)
/-- One entry behind a list of the reference's own. -/
theorem snocE {w : World} {v : Value} {l : Ents} {x : Ent} (h : Own 8 36 w v l.length (cellsOf encEnt l)) (hl : l.length ≤ 1000000000000) :
    ∃ v' w', (Builtin.append_ #[27, 27] 27 #[v, .slice (some ⟨w.heap.size, 0, none⟩) 1 1]).run Try.prog (w.alloc (.cells (encEnt x).toArray 36 (0, 0))) = .ok v' w' ∧ Own 8 36 w' v' (l ++ [x]).length (cellsOf encEnt (l ++ [x])) ∧ Fr (blkL v) w w' ∧ (v'.ownBlock = v.ownBlock ∨ ∃ b, v'.ownBlock = some b ∧ w.heap.size ≤ b) := by
  have h1 : Own 8 36 (w.alloc (.cells (encEnt x).toArray 36 (0, 0))) v l.length (cellsOf encEnt l) := h.fr (M := []) ((Fr.refl [] w).alloc _) (by simp)
  have hsl : Sl 8 (w.alloc (.cells (encEnt x).toArray 36 (0, 0))) (.slice (some ⟨w.heap.size, 0, none⟩) 1 1) 1 (cellsOf encEnt [x]) := ⟨rfl, .inr ⟨w.heap.size, 0, 1, (encEnt x).toArray, 36, (0, 0), rfl, get_alloc_new _ _, by rw [cellsOf_one]; rfl⟩⟩
  obtain ⟨v', w', hr, ho, hf, hb⟩ := ap27 (ty := 27) h1 hsl (cellsE_one [x]) (by omega)
  refine ⟨v', w', hr, by rw [List.length_append, cellsOf_append]; exact ho, Fr.trans (M' := blkL v) ((Fr.refl _ w).alloc _) hf fun y hy => .inl hy, ?_⟩
  rcases hb with hb | ⟨b, h1, h2⟩
  · exact .inl hb
  · refine .inr ⟨b, h1, ?_⟩
    rw [size_alloc] at h2; omega
def keepE (k : ByteArray) (lo : Int) (e : Ent) : Bool := !(decide (e.key = k) && decide (e.lo = lo))
set_option maxHeartbeats 4000000 in
theorem rdrop_spec {w : World} {rb : Nat} {R : List Nat} {L : Ents} {k : ByteArray} {lo : Int} {K : Value → World → Prop} (h : RTab w rb R L) (hl : L.length ≤ 1000000000)
    (hK : ∀ w' R', RTab w' rb R' (L.filter (keepE k lo)) → (∀ x ∈ R', x ∈ R ∨ w.heap.size ≤ x) → Fr R w w' → K (.bool (decide ((L.filter (keepE k lo)).length < L.length))) w') : CallsN Try.prog 23 [.pointer (some ⟨rb, 0, none⟩), .string k, .int .i64 lo] w K := by
  have cw := cur w
  obtain ⟨⟨v, h1, h2, h3⟩, h4, h5⟩ := id h
  have hlt := lt_of_get _ _ h1
  refine call23 ?_
  simp (maxSteps := 4000000) (disch := (first | assumption | exact List.not_mem_nil | exact Fr.refl _ _ | ((repeat (first | assumption | apply cur_alloc | apply cur_setB | apply cur_drew | apply cur_drewN)); done) | omega | (simp only [gz, Value.cells, oneC]; first | done | omega) | ((simp only [List.mem_cons, List.not_mem_nil, or_false, gz]); omega) | rfl)) only [↓gsd, gs, ev, Nat.reduceAdd, Nat.reduceEqDiff, oneC, Value.cells, Option.isNone, gt, frT_self, frT_drew, frT_drew0, frT_alloc, ↓hk23]
  refine for_intro L.length 8 0 (fun i e w' => ∃ vo, e 0 = .pointer (some ⟨rb, 0, none⟩) ∧ e 1 = .string k ∧ e 2 = .int .i64 lo ∧ e 7 = vo ∧ Own 8 36 w' vo ((L.take i).filter (keepE k lo)).length (cellsOf encEnt ((L.take i).filter (keepE k lo))) ∧ (∀ b, vo.ownBlock = some b → w.heap.size ≤ b) ∧ Fr [] w w') ?_ (Nat.zero_le _) ?_ ?_
  · simp (maxSteps := 4000000) (disch := (first | assumption | exact List.not_mem_nil | exact Fr.refl _ _ | ((repeat (first | assumption | apply cur_alloc | apply cur_setB | apply cur_drew | apply cur_drewN)); done) | omega | (simp only [gz, Value.cells, oneC]; first | done | omega) | ((simp only [List.mem_cons, List.not_mem_nil, or_false, gz]); omega) | rfl)) only [↓gsd, gs, ev, Nat.reduceAdd, Nat.reduceEqDiff, oneC, Value.cells, Option.isNone]
    rfl
  · refine ⟨sliceZ, ?_⟩
    simp (maxSteps := 4000000) (disch := (first | assumption | exact List.not_mem_nil | exact Fr.refl _ _ | ((repeat (first | assumption | apply cur_alloc | apply cur_setB | apply cur_drew | apply cur_drewN)); done) | omega | (simp only [gz, Value.cells, oneC]; first | done | omega) | ((simp only [List.mem_cons, List.not_mem_nil, or_false, gz]); omega) | rfl)) only [↓gsd, gs, ev, Nat.reduceAdd, Nat.reduceEqDiff, oneC, Value.cells, Option.isNone]
    exact ⟨Own.nil, fun b hb => by simp [Value.ownBlock] at hb, Fr.refl _ _⟩
  rintro i e w1 kk hi e8 ⟨vo, e0, e1, e2, e7, ho, hvo, hf⟩ hk
  have cw1 := cur w1
  have g1 := hf.getN h1
  have g2 : SlOf 8 encEnt w1 v L := (h2.frN hf).sl
  obtain ⟨va, vc, hvf⟩ := g2.form
  by_cases hil : i < L.length
  · have d : decide ((i : Int) < (L.length : Int)) = true := decide_eq_true (by omega)
    obtain ⟨y, hy⟩ : ∃ y, L[i]? = some y := ⟨L[i], List.getElem?_eq_getElem hil⟩
    obtain ⟨bb, off, cap, ob, hv1, hob, _, hrow, hcell⟩ := g2.read encEnt_len i y hy
    have i0 : (0 : Int) ≤ (i : Int) := by omega
    have i1 : (i : Int) < (L.length : Int) := by omega
    have wr : IntKind.i64.wrap ((i : Int) + 1) = (i : Int) + 1 := wrap64 (by omega) (by omega)
    have htk : (L.take (i + 1)).filter (keepE k lo) = (L.take i).filter (keepE k lo) ++ [y].filter (keepE k lo) := by rw [List.take_add_one, hy, List.filter_append]; rfl
    have hfl : ((L.take i).filter (keepE k lo)).length ≤ L.length := Nat.le_trans (List.length_filter_le _ _) (by rw [List.length_take]; omega)
    obtain ⟨v', w2, hr2, ho2, hf2, hb2⟩ := snocE (x := y) ho (by omega)
    have cw2 := cur w2
    have hF2 : Fr [] w w2 := hf.trans hf2 fun x hx => .inr (hvo x (mem_blkL.1 hx))
    have hk0 := fun orig K => hcell 0 (.string y.key) orig K rfl
    have hk3 := fun orig K => hcell 3 (.int .i64 y.lo) orig K rfl
    simp only [Nat.add_zero] at hk0
    by_cases hq : y.key = k ∧ y.lo = lo
    · have dk : decide (y.key = k) = true := decide_eq_true hq.1
      have dl : decide (y.lo = lo) = true := decide_eq_true hq.2
      have hkp : keepE k lo y = false := by unfold keepE; rw [dk, dl]; rfl
      rw [List.filter_cons, if_neg (by simp [hkp]), List.filter_nil, List.append_nil] at htk
      rw [← htk] at ho
      simp (maxSteps := 4000000) (disch := (first | assumption | exact List.not_mem_nil | exact Fr.refl _ _ | ((repeat (first | assumption | apply cur_alloc | apply cur_setB | apply cur_drew | apply cur_drewN)); done) | omega | (simp only [gz, Value.cells, oneC]; first | done | omega) | ((simp only [List.mem_cons, List.not_mem_nil, or_false, gz]); omega) | rfl)) only [↓gsd, gs, ev, Nat.reduceAdd, Nat.reduceEqDiff, oneC, Value.cells, Option.isNone, gt, frT_self, frT_drew, frT_drew0, frT_alloc, ↓hk23, e0, e1, e2, e7, e8, g1, hv1, d, i0, i1, Int.toNat_natCast, hob, hk0, hk3, hrow, wr, dk, dl]
      refine hk _ _ hil (by simp (maxSteps := 4000000) (disch := (first | assumption | exact List.not_mem_nil | exact Fr.refl _ _ | ((repeat (first | assumption | apply cur_alloc | apply cur_setB | apply cur_drew | apply cur_drewN)); done) | omega | (simp only [gz, Value.cells, oneC]; first | done | omega) | ((simp only [List.mem_cons, List.not_mem_nil, or_false, gz]); omega) | rfl)) only [↓gsd, gs, ev, Nat.reduceAdd, Nat.reduceEqDiff, oneC, Value.cells, Option.isNone]) ⟨vo, ?_⟩
      simp (maxSteps := 4000000) (disch := (first | assumption | exact List.not_mem_nil | exact Fr.refl _ _ | ((repeat (first | assumption | apply cur_alloc | apply cur_setB | apply cur_drew | apply cur_drewN)); done) | omega | (simp only [gz, Value.cells, oneC]; first | done | omega) | ((simp only [List.mem_cons, List.not_mem_nil, or_false, gz]); omega) | rfl)) only [↓gsd, gs, ev, Nat.reduceAdd, Nat.reduceEqDiff, oneC, Value.cells, Option.isNone, e0, e1, e2, e7]
      exact ⟨ho, hvo, hf⟩
    · have hkp : keepE k lo y = true := by unfold keepE; by_cases a : y.key = k <;> by_cases b : y.lo = lo <;> simp_all
      rw [List.filter_cons, if_pos hkp, List.filter_nil] at htk
      rw [← htk] at ho2
      have hvo2 : ∀ b, v'.ownBlock = some b → w.heap.size ≤ b := fun b hb => by
        have := hf.size
        rcases hb2 with q | ⟨b', q1, q2⟩
        · exact hvo b (q ▸ hb)
        · rw [q1] at hb; cases hb; omega
      have hfin : ∀ e' : Env, e' 0 = .pointer (some ⟨rb, 0, none⟩) → e' 1 = .string k → e' 2 = .int .i64 lo → e' 7 = v' → e' 8 = .int .i64 ((i : Int) + 1) → kk e' w2 := fun e' q0 q1 q2 q7 q8 => hk _ _ hil q8 ⟨v', q0, q1, q2, q7, ho2, hvo2, hF2⟩
      unfold encEnt at hrow hr2
      by_cases hq1 : y.key = k
      · have dk : decide (y.key = k) = true := decide_eq_true hq1
        have dl : decide (y.lo = lo) = false := decide_eq_false fun q => hq ⟨hq1, q⟩
        simp (maxSteps := 4000000) (disch := (first | assumption | exact List.not_mem_nil | exact Fr.refl _ _ | ((repeat (first | assumption | apply cur_alloc | apply cur_setB | apply cur_drew | apply cur_drewN)); done) | omega | (simp only [gz, Value.cells, oneC]; first | done | omega) | ((simp only [List.mem_cons, List.not_mem_nil, or_false, gz]); omega) | rfl)) only [↓gsd, gs, ev, Nat.reduceAdd, Nat.reduceEqDiff, oneC, Value.cells, Option.isNone, gt, frT_self, frT_drew, frT_drew0, frT_alloc, ↓hk23, e0, e1, e2, e7, e8, g1, hv1, d, i0, i1, Int.toNat_natCast, hob, hk0, hk3, hrow, wr, dk, dl, hr2]
        apply hfin <;> simp (maxSteps := 4000000) (disch := (first | assumption | exact List.not_mem_nil | exact Fr.refl _ _ | ((repeat (first | assumption | apply cur_alloc | apply cur_setB | apply cur_drew | apply cur_drewN)); done) | omega | (simp only [gz, Value.cells, oneC]; first | done | omega) | ((simp only [List.mem_cons, List.not_mem_nil, or_false, gz]); omega) | rfl)) only [↓gsd, gs, ev, Nat.reduceAdd, Nat.reduceEqDiff, oneC, Value.cells, Option.isNone, e0, e1, e2]
      · have dk : decide (y.key = k) = false := decide_eq_false hq1
        simp (maxSteps := 4000000) (disch := (first | assumption | exact List.not_mem_nil | exact Fr.refl _ _ | ((repeat (first | assumption | apply cur_alloc | apply cur_setB | apply cur_drew | apply cur_drewN)); done) | omega | (simp only [gz, Value.cells, oneC]; first | done | omega) | ((simp only [List.mem_cons, List.not_mem_nil, or_false, gz]); omega) | rfl)) only [↓gsd, gs, ev, Nat.reduceAdd, Nat.reduceEqDiff, oneC, Value.cells, Option.isNone, gt, frT_self, frT_drew, frT_drew0, frT_alloc, ↓hk23, e0, e1, e2, e7, e8, g1, hv1, d, i0, i1, Int.toNat_natCast, hob, hk0, hk3, hrow, wr, dk, hr2]
        apply hfin <;> simp (maxSteps := 4000000) (disch := (first | assumption | exact List.not_mem_nil | exact Fr.refl _ _ | ((repeat (first | assumption | apply cur_alloc | apply cur_setB | apply cur_drew | apply cur_drewN)); done) | omega | (simp only [gz, Value.cells, oneC]; first | done | omega) | ((simp only [List.mem_cons, List.not_mem_nil, or_false, gz]); omega) | rfl)) only [↓gsd, gs, ev, Nat.reduceAdd, Nat.reduceEqDiff, oneC, Value.cells, Option.isNone, e0, e1, e2]
  · have d : decide ((i : Int) < (L.length : Int)) = false := decide_eq_false (by omega)
    have hti : L.take i = L := List.take_of_length_le (by omega)
    rw [hti] at ho
    have g3 := (hf.getN h1)
    have hlt1 := lt_of_get _ _ g3
    obtain ⟨oa, oc, hvof⟩ := ho.sl.form
    rw [hvf] at g1
    rw [hvof] at e7
    have hd : decide ((((L.filter (keepE k lo)).length : Int)) < (L.length : Int)) = decide ((L.filter (keepE k lo)).length < L.length) := by simp
    simp (maxSteps := 4000000) (disch := (first | assumption | exact List.not_mem_nil | exact Fr.refl _ _ | ((repeat (first | assumption | apply cur_alloc | apply cur_setB | apply cur_drew | apply cur_drewN)); done) | omega | (simp only [gz, Value.cells, oneC]; first | done | omega) | ((simp only [List.mem_cons, List.not_mem_nil, or_false, gz]); omega) | rfl)) only [↓gsd, gs, ev, Nat.reduceAdd, Nat.reduceEqDiff, oneC, Value.cells, Option.isNone, gt, frT_self, frT_drew, frT_drew0, frT_alloc, ↓hk23, e0, e1, e2, e7, e8, g1, hvf, d, hd]
    rw [← hvof]
    generalize hW : World.setB w1 rb _ = w2
    have hf2 : Fr [rb] w1 w2 := by rw [← hW]; (repeat (first | exact Fr.refl _ _ | assumption | with_reducible apply Fr.alloc | with_reducible apply Fr.drew | with_reducible refine Fr.setB ?_ _ _ (.inr (by first | omega | (simp only [gz]; omega))) | with_reducible refine Fr.setB ?_ _ _ (.inl (by first | assumption | simp)) | with_reducible refine Fr.trans' ?_ (by assumption)))
    have h12 : w2.heap[rb]? = some (.cells ([vo] : List Value).toArray 29 (0, 0)) := by rw [← hW]; exact get_setB_same _ _ _ hlt1
    refine hK w2 (rb :: blkL vo) ⟨⟨vo, h12, ho.fr hf2 fun b hb e => ?_, fun b hb => List.mem_cons_of_mem _ (mem_blkL.2 hb)⟩, List.mem_cons_self .., fun x hx => ?_⟩ (fun x hx => ?_) ?_
    · simp at hb; subst hb; exact own_head ho g3 (by decide) e
    · rcases List.mem_cons.1 hx with rfl | hx
      · have := hf2.size; omega
      · have := ho.lt (mem_blkL.1 hx); have := hf2.size; omega
    · rcases List.mem_cons.1 hx with rfl | hx
      · exact .inl h4
      · exact .inr (hvo _ (mem_blkL.1 hx))
    · exact Fr.trans (M' := [rb]) (Fr.trans (M' := []) (Fr.refl _ w) hf (by simp)) hf2 fun x hx => by simp at hx; subst hx; exact .inl h4
end Go.Proofs.Ytldmkhakjnglmaa
