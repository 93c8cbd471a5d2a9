/- The reference's table: Of, Get, Find, Bytes, Same, ahead. -/
import Derived.Test.YtldmkhakjnglmaaZ1
import Derived.Test.YtldmkhakjnglmaaZ2
set_option linter.unusedVariables false
set_option linter.unusedSimpArgs false
set_option maxRecDepth 10000
namespace Go.Proofs.Ytldmkhakjnglmaa
open Go.VW
def aheadB (e : Ent) (k : ByteArray) (lo : Int) : Bool := Op.bytesLess e.key.toList k.toList || (decide (e.key = k) && decide (e.lo < lo))
theorem ahead_spec {e : Ent} {k : ByteArray} {lo : Int} {w : World} {K : Value → World → Prop} (hK : ∀ w', Fr [] w w' → K (.bool (aheadB e k lo)) w') : CallsN Try.prog 39 [.agg (encEnt e).toArray, .string k, .int .i64 lo] w K := by
  have cw := cur w
  unfold aheadB at hK
  refine call39 ?_
  unfold encEnt
  have hK' := hK _ ((Fr.refl _ w).alloc (.cells (encEnt e).toArray 36 (0, 0)))
  unfold encEnt at hK'
  cases q1 : Op.bytesLess e.key.toList k.toList with
  | true =>
    simp only [q1, Bool.true_or] at hK'
    simp (maxSteps := 4000000) (disch := (first | assumption | exact List.not_mem_nil | exact Fr.refl _ _ | ((repeat (first | assumption | apply cur_alloc | apply cur_setB | apply cur_drew | apply cur_drewN)); done) | omega | (simp only [gz, Value.cells, oneC]; first | done | omega) | ((simp only [List.mem_cons, List.not_mem_nil, or_false, gz]); omega) | rfl)) only [↓gsd, gs, ev, Nat.reduceAdd, Nat.reduceEqDiff, oneC, Value.cells, Option.isNone, gt, frT_self, frT_drew, frT_drew0, frT_alloc, ↓hk39, q1]
    exact hK'
  | false =>
    cases q2 : decide (e.key = k) with
    | false =>
      simp only [q1, q2, Bool.false_or, Bool.false_and] at hK'
      simp (maxSteps := 4000000) (disch := (first | assumption | exact List.not_mem_nil | exact Fr.refl _ _ | ((repeat (first | assumption | apply cur_alloc | apply cur_setB | apply cur_drew | apply cur_drewN)); done) | omega | (simp only [gz, Value.cells, oneC]; first | done | omega) | ((simp only [List.mem_cons, List.not_mem_nil, or_false, gz]); omega) | rfl)) only [↓gsd, gs, ev, Nat.reduceAdd, Nat.reduceEqDiff, oneC, Value.cells, Option.isNone, gt, frT_self, frT_drew, frT_drew0, frT_alloc, ↓hk39, q1, q2]
      exact hK'
    | true =>
      simp only [q1, q2, Bool.false_or, Bool.true_and] at hK'
      simp (maxSteps := 4000000) (disch := (first | assumption | exact List.not_mem_nil | exact Fr.refl _ _ | ((repeat (first | assumption | apply cur_alloc | apply cur_setB | apply cur_drew | apply cur_drewN)); done) | omega | (simp only [gz, Value.cells, oneC]; first | done | omega) | ((simp only [List.mem_cons, List.not_mem_nil, or_false, gz]); omega) | rfl)) only [↓gsd, gs, ev, Nat.reduceAdd, Nat.reduceEqDiff, oneC, Value.cells, Option.isNone, gt, frT_self, frT_drew, frT_drew0, frT_alloc, ↓hk39, q1, q2]
      exact hK'
theorem take_snoc {α : Type} {l : List α} {i : Nat} {y : α} (h : l[i]? = some y) : l.take (i + 1) = l.take i ++ [y] := by rw [List.take_add_one, h]; rfl
theorem filter_snoc {α : Type} {l : List α} {i : Nat} {y : α} (h : l[i]? = some y) (p : α → Bool) : (l.take (i + 1)).filter p = if p y = true then (l.take i).filter p ++ [y] else (l.take i).filter p := by
  rw [take_snoc h, List.filter_append, List.filter_cons, List.filter_nil]
  split
  · rfl
  · rw [List.append_nil]
theorem filter_le {α : Type} (l : List α) (i : Nat) (p : α → Bool) : ((l.take i).filter p).length ≤ l.length := Nat.le_trans (List.length_filter_le _ _) (by rw [List.length_take]; omega)
set_option maxHeartbeats 4000000 in
theorem rof10_spec {w : World} {rb : Nat} {R : List Nat} {L : Ents} {k : ByteArray} {K : Value → World → Prop} (h : RTab w rb R L) (hl : L.length ≤ 1000000000)
    (hK : ∀ v w', Own 8 36 w' v (L.filter fun e => decide (e.key = k)).length (cellsOf encEnt (L.filter fun e => decide (e.key = k))) → (∀ b, v.ownBlock = some b → w.heap.size ≤ b) → Fr [] w w' → K v w') : CallsN Try.prog 26 [.pointer (some ⟨rb, 0, none⟩), .string k] w K := by
  have cw := cur w
  obtain ⟨⟨v, h1, h2, h3⟩, h4, h5⟩ := id h
  refine call26 ?_
  simp (maxSteps := 4000000) (disch := (first | assumption | exact List.not_mem_nil | exact Fr.refl _ _ | ((repeat (first | assumption | apply cur_alloc | apply cur_setB | apply cur_drew | apply cur_drewN)); done) | omega | (simp only [gz, Value.cells, oneC]; first | done | omega) | ((simp only [List.mem_cons, List.not_mem_nil, or_false, gz]); omega) | rfl)) only [↓gsd, gs, ev, Nat.reduceAdd, Nat.reduceEqDiff, oneC, Value.cells, Option.isNone, gt, frT_self, frT_drew, frT_drew0, frT_alloc, ↓hk26]
  refine for_intro L.length 6 0 (fun i e w' => ∃ vo, e 0 = .pointer (some ⟨rb, 0, none⟩) ∧ e 1 = .string k ∧ e 5 = vo ∧ Own 8 36 w' vo ((L.take i).filter fun e => decide (e.key = k)).length (cellsOf encEnt ((L.take i).filter fun e => decide (e.key = k))) ∧ (∀ b, vo.ownBlock = some b → w.heap.size ≤ b) ∧ Fr [] w w') ?_ (Nat.zero_le _) ?_ ?_
  · simp (maxSteps := 4000000) (disch := (first | assumption | exact List.not_mem_nil | exact Fr.refl _ _ | ((repeat (first | assumption | apply cur_alloc | apply cur_setB | apply cur_drew | apply cur_drewN)); done) | omega | (simp only [gz, Value.cells, oneC]; first | done | omega) | ((simp only [List.mem_cons, List.not_mem_nil, or_false, gz]); omega) | rfl)) only [↓gsd, gs, ev, Nat.reduceAdd, Nat.reduceEqDiff, oneC, Value.cells, Option.isNone]; rfl
  · refine ⟨sliceZ, ?_⟩
    simp (maxSteps := 4000000) (disch := (first | assumption | exact List.not_mem_nil | exact Fr.refl _ _ | ((repeat (first | assumption | apply cur_alloc | apply cur_setB | apply cur_drew | apply cur_drewN)); done) | omega | (simp only [gz, Value.cells, oneC]; first | done | omega) | ((simp only [List.mem_cons, List.not_mem_nil, or_false, gz]); omega) | rfl)) only [↓gsd, gs, ev, Nat.reduceAdd, Nat.reduceEqDiff, oneC, Value.cells, Option.isNone]
    exact ⟨Own.nil, fun b hb => by simp [Value.ownBlock] at hb, Fr.refl _ _⟩
  rintro i e w1 kk hi e6 ⟨vo, e0, e1, e5, ho, hvo, hf⟩ hk
  have cw1 := cur w1
  have g1 := hf.getN h1
  have g2 : SlOf 8 encEnt w1 v L := (h2.frN hf).sl
  obtain ⟨va, vc, hvf⟩ := g2.form
  by_cases hil : i < L.length
  · have d : decide ((i : Int) < (L.length : Int)) = true := decide_eq_true (by omega)
    obtain ⟨y, hy⟩ : ∃ y, L[i]? = some y := ⟨L[i], List.getElem?_eq_getElem hil⟩
    obtain ⟨bb, off, cap, ob, hv1, hob, _, hrow, hcell⟩ := g2.read encEnt_len i y hy
    have i0 : (0 : Int) ≤ (i : Int) := by omega
    have i1 : (i : Int) < (L.length : Int) := by omega
    have wr : IntKind.i64.wrap ((i : Int) + 1) = (i : Int) + 1 := wrap64 (by omega) (by omega)
    have htk := filter_snoc hy fun e => decide (e.key = k)
    have hfl := filter_le L i fun e => decide (e.key = k)
    have hk0 := fun orig K => hcell 0 (.string y.key) orig K rfl
    simp only [Nat.add_zero] at hk0
    by_cases hq : y.key = k
    · have dk : decide (y.key = k) = true := decide_eq_true hq
      obtain ⟨v', w2, hr2, ho2, hf2, hb2⟩ := snocE (x := y) ho (by omega)
      have cw2 := cur w2
      rw [if_pos dk] at htk
      rw [← htk] at ho2
      unfold encEnt at hrow hr2
      simp (maxSteps := 4000000) (disch := (first | assumption | exact List.not_mem_nil | exact Fr.refl _ _ | ((repeat (first | assumption | apply cur_alloc | apply cur_setB | apply cur_drew | apply cur_drewN)); done) | omega | (simp only [gz, Value.cells, oneC]; first | done | omega) | ((simp only [List.mem_cons, List.not_mem_nil, or_false, gz]); omega) | rfl)) only [↓gsd, gs, ev, Nat.reduceAdd, Nat.reduceEqDiff, oneC, Value.cells, Option.isNone, gt, frT_self, frT_drew, frT_drew0, frT_alloc, ↓hk26, e0, e1, e5, e6, g1, hv1, d, i0, i1, Int.toNat_natCast, hob, hk0, hrow, wr, dk, hr2]
      refine hk _ _ hil (by simp (maxSteps := 4000000) (disch := (first | assumption | exact List.not_mem_nil | exact Fr.refl _ _ | ((repeat (first | assumption | apply cur_alloc | apply cur_setB | apply cur_drew | apply cur_drewN)); done) | omega | (simp only [gz, Value.cells, oneC]; first | done | omega) | ((simp only [List.mem_cons, List.not_mem_nil, or_false, gz]); omega) | rfl)) only [↓gsd, gs, ev, Nat.reduceAdd, Nat.reduceEqDiff, oneC, Value.cells, Option.isNone]) ⟨v', ?_⟩
      simp (maxSteps := 4000000) (disch := (first | assumption | exact List.not_mem_nil | exact Fr.refl _ _ | ((repeat (first | assumption | apply cur_alloc | apply cur_setB | apply cur_drew | apply cur_drewN)); done) | omega | (simp only [gz, Value.cells, oneC]; first | done | omega) | ((simp only [List.mem_cons, List.not_mem_nil, or_false, gz]); omega) | rfl)) only [↓gsd, gs, ev, Nat.reduceAdd, Nat.reduceEqDiff, oneC, Value.cells, Option.isNone, e0, e1]
      refine ⟨ho2, fun b hb => ?_, hf.trans hf2 fun x hx => .inr (hvo x (mem_blkL.1 hx))⟩
      have := hf.size
      rcases hb2 with q | ⟨b', q1, q2⟩
      · exact hvo b (q ▸ hb)
      · rw [q1] at hb; cases hb; omega
    · have dk : decide (y.key = k) = false := decide_eq_false hq
      rw [if_neg (by simp [dk])] at htk
      rw [← htk] at ho
      simp (maxSteps := 4000000) (disch := (first | assumption | exact List.not_mem_nil | exact Fr.refl _ _ | ((repeat (first | assumption | apply cur_alloc | apply cur_setB | apply cur_drew | apply cur_drewN)); done) | omega | (simp only [gz, Value.cells, oneC]; first | done | omega) | ((simp only [List.mem_cons, List.not_mem_nil, or_false, gz]); omega) | rfl)) only [↓gsd, gs, ev, Nat.reduceAdd, Nat.reduceEqDiff, oneC, Value.cells, Option.isNone, gt, frT_self, frT_drew, frT_drew0, frT_alloc, ↓hk26, e0, e1, e5, e6, g1, hv1, d, i0, i1, Int.toNat_natCast, hob, hk0, hrow, wr, dk]
      refine hk _ _ hil (by simp (maxSteps := 4000000) (disch := (first | assumption | exact List.not_mem_nil | exact Fr.refl _ _ | ((repeat (first | assumption | apply cur_alloc | apply cur_setB | apply cur_drew | apply cur_drewN)); done) | omega | (simp only [gz, Value.cells, oneC]; first | done | omega) | ((simp only [List.mem_cons, List.not_mem_nil, or_false, gz]); omega) | rfl)) only [↓gsd, gs, ev, Nat.reduceAdd, Nat.reduceEqDiff, oneC, Value.cells, Option.isNone]) ⟨vo, ?_⟩
      simp (maxSteps := 4000000) (disch := (first | assumption | exact List.not_mem_nil | exact Fr.refl _ _ | ((repeat (first | assumption | apply cur_alloc | apply cur_setB | apply cur_drew | apply cur_drewN)); done) | omega | (simp only [gz, Value.cells, oneC]; first | done | omega) | ((simp only [List.mem_cons, List.not_mem_nil, or_false, gz]); omega) | rfl)) only [↓gsd, gs, ev, Nat.reduceAdd, Nat.reduceEqDiff, oneC, Value.cells, Option.isNone, e0, e1, e5]
      exact ⟨ho, hvo, hf⟩
  · have d : decide ((i : Int) < (L.length : Int)) = false := decide_eq_false (by omega)
    have hti : L.take i = L := List.take_of_length_le (by omega)
    rw [hti] at ho
    rw [hvf] at g1
    simp (maxSteps := 4000000) (disch := (first | assumption | exact List.not_mem_nil | exact Fr.refl _ _ | ((repeat (first | assumption | apply cur_alloc | apply cur_setB | apply cur_drew | apply cur_drewN)); done) | omega | (simp only [gz, Value.cells, oneC]; first | done | omega) | ((simp only [List.mem_cons, List.not_mem_nil, or_false, gz]); omega) | rfl)) only [↓gsd, gs, ev, Nat.reduceAdd, Nat.reduceEqDiff, oneC, Value.cells, Option.isNone, gt, frT_self, frT_drew, frT_drew0, frT_alloc, ↓hk26, e0, e1, e5, e6, g1, d]
    exact hK _ _ ho hvo hf
theorem find_take {α : Type} {l : List α} {p : α → Bool} {i : Nat} (h : (l.take i).find? p = none) (hi : l.length ≤ i) : l.find? p = none := by rwa [List.take_of_length_le hi] at h
theorem find_here {α : Type} {l : List α} {p : α → Bool} {i : Nat} {y : α} (h : (l.take i).find? p = none) (hy : l[i]? = some y) (hp : p y = true) : l.find? p = some y := by
  obtain ⟨g1, g2⟩ := List.getElem?_eq_some_iff.1 hy
  conv => lhs; rw [← List.take_append_drop i l, List.drop_eq_getElem_cons g1, g2]
  rw [List.find?_append, h, Option.none_or, List.find?_cons_of_pos hp]
theorem find_next {α : Type} {l : List α} {p : α → Bool} {i : Nat} {y : α} (h : (l.take i).find? p = none) (hy : l[i]? = some y) (hp : p y = false) : (l.take (i + 1)).find? p = none := by
  rw [take_snoc hy, List.find?_append, h, Option.none_or, List.find?_cons_of_neg (by simp [hp])]; rfl
def getL (L : Ents) (k : ByteArray) (lo : Int) : Option Ent := L.find? fun e => decide (e.key = k) && decide (e.lo = lo)
set_option maxHeartbeats 4000000 in
theorem rget_spec {w : World} {rb : Nat} {R : List Nat} {L : Ents} {k : ByteArray} {lo : Int} {K : Value → World → Prop} (h : RTab w rb R L) (hl : L.length ≤ 1000000000)
    (hK : ∀ w', Fr [] w w' → K (.tuple ([.agg (encEnt ((getL L k lo).getD entZ)).toArray, .bool (getL L k lo).isSome] : List Value).toArray) w') : CallsN Try.prog 24 [.pointer (some ⟨rb, 0, none⟩), .string k, .int .i64 lo] w K := by
  have cw := cur w
  obtain ⟨⟨v, h1, h2, h3⟩, h4, h5⟩ := id h
  refine call24 ?_
  simp (maxSteps := 4000000) (disch := (first | assumption | exact List.not_mem_nil | exact Fr.refl _ _ | ((repeat (first | assumption | apply cur_alloc | apply cur_setB | apply cur_drew | apply cur_drewN)); done) | omega | (simp only [gz, Value.cells, oneC]; first | done | omega) | ((simp only [List.mem_cons, List.not_mem_nil, or_false, gz]); omega) | rfl)) only [↓gsd, gs, ev, Nat.reduceAdd, Nat.reduceEqDiff, oneC, Value.cells, Option.isNone, gt, frT_self, frT_drew, frT_drew0, frT_alloc, ↓hk24]
  generalize hW : World.alloc _ _ = w0
  have hf0 : Fr [] w w0 := by rw [← hW]; (repeat (first | exact Fr.refl _ _ | assumption | with_reducible apply Fr.alloc | with_reducible apply Fr.drew | with_reducible refine Fr.setB ?_ _ _ (.inr (by first | omega | (simp only [gz]; omega))) | with_reducible refine Fr.setB ?_ _ _ (.inl (by first | assumption | simp)) | with_reducible refine Fr.trans' ?_ (by assumption)))
  have ga : w0.heap[w.heap.size]? = some (.cells (encEnt entZ).toArray 36 (0, 0)) := by rw [← hW]; exact get_alloc_new _ _
  clear hW
  have cw0 := cur w0
  refine for_intro L.length 8 0 (fun i e w' => e 0 = .pointer (some ⟨rb, 0, none⟩) ∧ e 1 = .string k ∧ e 2 = .int .i64 lo ∧ e 6 = .pointer (some ⟨w.heap.size, 0, none⟩) ∧ ((L.take i).find? fun e => decide (e.key = k) && decide (e.lo = lo)) = none ∧ Fr [] w0 w') ?_ (Nat.zero_le _) ?_ ?_
  · simp (maxSteps := 4000000) (disch := (first | assumption | exact List.not_mem_nil | exact Fr.refl _ _ | ((repeat (first | assumption | apply cur_alloc | apply cur_setB | apply cur_drew | apply cur_drewN)); done) | omega | (simp only [gz, Value.cells, oneC]; first | done | omega) | ((simp only [List.mem_cons, List.not_mem_nil, or_false, gz]); omega) | rfl)) only [↓gsd, gs, ev, Nat.reduceAdd, Nat.reduceEqDiff, oneC, Value.cells, Option.isNone]; rfl
  · simp (maxSteps := 4000000) (disch := (first | assumption | exact List.not_mem_nil | exact Fr.refl _ _ | ((repeat (first | assumption | apply cur_alloc | apply cur_setB | apply cur_drew | apply cur_drewN)); done) | omega | (simp only [gz, Value.cells, oneC]; first | done | omega) | ((simp only [List.mem_cons, List.not_mem_nil, or_false, gz]); omega) | rfl)) only [↓gsd, gs, ev, Nat.reduceAdd, Nat.reduceEqDiff, oneC, Value.cells, Option.isNone]
    exact ⟨rfl, Fr.refl _ _⟩
  rintro i e w1 kk hi e8 ⟨e0, e1, e2, e6, hn, hf⟩ hk
  have cw1 := cur w1
  have hF := hf0.trans' hf
  have g1 := hF.getN h1
  have ga1 := hf.getN ga
  have la1 := lt_of_get _ _ ga1
  have g2 : SlOf 8 encEnt w1 v L := (h2.frN hF).sl
  obtain ⟨va, vc, hvf⟩ := g2.form
  by_cases hil : i < L.length
  · have d : decide ((i : Int) < (L.length : Int)) = true := decide_eq_true (by omega)
    obtain ⟨y, hy⟩ : ∃ y, L[i]? = some y := ⟨L[i], List.getElem?_eq_getElem hil⟩
    obtain ⟨bb, off, cap, ob, hv1, hob, _, hrow, hcell⟩ := g2.read encEnt_len i y hy
    have i0 : (0 : Int) ≤ (i : Int) := by omega
    have i1 : (i : Int) < (L.length : Int) := by omega
    have wr : IntKind.i64.wrap ((i : Int) + 1) = (i : Int) + 1 := wrap64 (by omega) (by omega)
    have hk0 := fun orig K => hcell 0 (.string y.key) orig K rfl
    have hk3 := fun orig K => hcell 3 (.int .i64 y.lo) orig K rfl
    simp only [Nat.add_zero] at hk0
    have hno : (decide (y.key = k) && decide (y.lo = lo)) = false → ∀ e' : Env, e' 0 = .pointer (some ⟨rb, 0, none⟩) → e' 1 = .string k → e' 2 = .int .i64 lo → e' 6 = .pointer (some ⟨w.heap.size, 0, none⟩) → e' 8 = .int .i64 ((i : Int) + 1) → kk e' w1 := fun hp e' q0 q1 q2 q6 q8 => hk _ _ hil q8 ⟨q0, q1, q2, q6, find_next hn hy hp, hf⟩
    cases dk : decide (y.key = k) with
    | false =>
      simp (maxSteps := 4000000) (disch := (first | assumption | exact List.not_mem_nil | exact Fr.refl _ _ | ((repeat (first | assumption | apply cur_alloc | apply cur_setB | apply cur_drew | apply cur_drewN)); done) | omega | (simp only [gz, Value.cells, oneC]; first | done | omega) | ((simp only [List.mem_cons, List.not_mem_nil, or_false, gz]); omega) | rfl)) only [↓gsd, gs, ev, Nat.reduceAdd, Nat.reduceEqDiff, oneC, Value.cells, Option.isNone, gt, frT_self, frT_drew, frT_drew0, frT_alloc, ↓hk24, e0, e1, e2, e6, e8, g1, hv1, d, i0, i1, Int.toNat_natCast, hob, hk0, hk3, hrow, wr, dk]
      apply hno (by rw [dk]; rfl) <;> simp (maxSteps := 4000000) (disch := (first | assumption | exact List.not_mem_nil | exact Fr.refl _ _ | ((repeat (first | assumption | apply cur_alloc | apply cur_setB | apply cur_drew | apply cur_drewN)); done) | omega | (simp only [gz, Value.cells, oneC]; first | done | omega) | ((simp only [List.mem_cons, List.not_mem_nil, or_false, gz]); omega) | rfl)) only [↓gsd, gs, ev, Nat.reduceAdd, Nat.reduceEqDiff, oneC, Value.cells, Option.isNone, e0, e1, e2, e6]
    | true =>
      cases dl : decide (y.lo = lo) with
      | false =>
        simp (maxSteps := 4000000) (disch := (first | assumption | exact List.not_mem_nil | exact Fr.refl _ _ | ((repeat (first | assumption | apply cur_alloc | apply cur_setB | apply cur_drew | apply cur_drewN)); done) | omega | (simp only [gz, Value.cells, oneC]; first | done | omega) | ((simp only [List.mem_cons, List.not_mem_nil, or_false, gz]); omega) | rfl)) only [↓gsd, gs, ev, Nat.reduceAdd, Nat.reduceEqDiff, oneC, Value.cells, Option.isNone, gt, frT_self, frT_drew, frT_drew0, frT_alloc, ↓hk24, e0, e1, e2, e6, e8, g1, hv1, d, i0, i1, Int.toNat_natCast, hob, hk0, hk3, hrow, wr, dk, dl]
        apply hno (by rw [dk, dl]; rfl) <;> simp (maxSteps := 4000000) (disch := (first | assumption | exact List.not_mem_nil | exact Fr.refl _ _ | ((repeat (first | assumption | apply cur_alloc | apply cur_setB | apply cur_drew | apply cur_drewN)); done) | omega | (simp only [gz, Value.cells, oneC]; first | done | omega) | ((simp only [List.mem_cons, List.not_mem_nil, or_false, gz]); omega) | rfl)) only [↓gsd, gs, ev, Nat.reduceAdd, Nat.reduceEqDiff, oneC, Value.cells, Option.isNone, e0, e1, e2, e6]
      | true =>
        have hg : getL L k lo = some y := find_here hn hy (by rw [dk, dl]; rfl)
        rw [hg] at hK
        unfold encEnt at hrow hK ga1
        simp only [Option.getD_some, Option.isSome_some] at hK
        simp (maxSteps := 4000000) (disch := (first | assumption | exact List.not_mem_nil | exact Fr.refl _ _ | ((repeat (first | assumption | apply cur_alloc | apply cur_setB | apply cur_drew | apply cur_drewN)); done) | omega | (simp only [gz, Value.cells, oneC]; first | done | omega) | ((simp only [List.mem_cons, List.not_mem_nil, or_false, gz]); omega) | rfl)) only [↓gsd, gs, ev, Nat.reduceAdd, Nat.reduceEqDiff, oneC, Value.cells, Option.isNone, gt, frT_self, frT_drew, frT_drew0, frT_alloc, ↓hk24, e0, e1, e2, e6, e8, g1, hv1, d, i0, i1, Int.toNat_natCast, hob, hk0, hk3, hrow, wr, dk, dl, ga1]
        exact hK _ (hF.setB _ _ (.inr (Nat.le_refl _)))
  · have d : decide ((i : Int) < (L.length : Int)) = false := decide_eq_false (by omega)
    have hg : getL L k lo = none := find_take hn (by omega)
    rw [hg] at hK
    rw [hvf] at g1
    unfold encEnt at hK ga1
    simp only [Option.getD_none, Option.isSome_none] at hK
    simp (maxSteps := 4000000) (disch := (first | assumption | exact List.not_mem_nil | exact Fr.refl _ _ | ((repeat (first | assumption | apply cur_alloc | apply cur_setB | apply cur_drew | apply cur_drewN)); done) | omega | (simp only [gz, Value.cells, oneC]; first | done | omega) | ((simp only [List.mem_cons, List.not_mem_nil, or_false, gz]); omega) | rfl)) only [↓gsd, gs, ev, Nat.reduceAdd, Nat.reduceEqDiff, oneC, Value.cells, Option.isNone, gt, frT_self, frT_drew, frT_drew0, frT_alloc, ↓hk24, e0, e1, e2, e6, e8, g1, d, ga1]
    exact hK _ (hF.setB _ _ (.inr (Nat.le_refl _)))
end Go.Proofs.Ytldmkhakjnglmaa
