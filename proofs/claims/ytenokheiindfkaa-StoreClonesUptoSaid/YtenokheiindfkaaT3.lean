/- The reference: Kept, Oldest, SameVersions, SameTexts. -/
import Derived.Test.YtenokheiindfkaaT2
import Derived.Test.YtenokheiindfkaaS12
set_option linter.unusedVariables false
set_option linter.unusedSimpArgs false
set_option maxRecDepth 10000
namespace Go.Proofs.Ytenokheiindfkaa
open Go.VW
def keptL (most : Nat) (l : List Ver) : List Ver := l.drop (l.length - most)
theorem Own.cap {k n : Nat} {e : TypeId} {w : World} {v : Value} {cs : List Value} (h : Own k e w v n cs) : ∀ a m c, v = .slice a m c → m ≤ c := by
  intro a m c hv
  rcases h.2 with ⟨rfl, _⟩ | ⟨g, cap, cur, rfl, _, hg, hnc, _⟩
  · cases hv; exact Nat.le_refl _
  · cases hv; exact hnc
theorem r5kept {w : World} {rb most : Nat} {v : Value} {own : List (List Wr)} {key : ByteArray} {K : Value → World → Prop} (h : R5At w rb v most own) (hl : (past own).length ≤ 100000000) (hm : most ≤ 64)
    (hK : ∀ vo w', SlOf 3 encVer w' vo (keptL most (allP (past own) key)) → Fr [] w w' → K vo w') : CallsN Try.prog 79 [.pointer (some ⟨rb, 0, none⟩), .string key] w K := by
  have cw := cur w
  have hh := h.head
  refine call79 ?_
  simp (maxSteps := 4000000) (disch := (first | assumption | exact List.not_mem_nil | exact Fr.refl _ _ | ((repeat (first | assumption | apply cur_alloc | apply cur_setB | apply cur_drew | apply cur_drewN)); done) | omega | (simp only [gz, Value.cells, oneC]; first | done | omega) | ((simp only [List.mem_cons, List.not_mem_nil, or_false, gz]); omega) | rfl)) only [↓gsd, gs, ev, Nat.reduceAdd, Nat.reduceEqDiff, oneC, Value.cells, Option.isNone, gt, frT_self, frT_drew, frT_drew0, frT_alloc, ↓hk79]
  refine r5all h hl fun vo w1 hown hfr hf => ?_
  have cw1 := cur w1
  have hz1 := hf.size
  have hh1 := hf.getN hh
  have hlt1 := lt_of_get _ _ hh1
  obtain ⟨l, hl'⟩ : ∃ l, l = allP (past own) key := ⟨_, rfl⟩
  rw [← hl'] at hown hK
  have hll : l.length ≤ 100000000 := by
    rw [hl']; unfold allP
    rw [List.length_map]
    have := List.length_filter_le (fun p : Past => decide (p.2.key = key)) (past own)
    omega
  obtain ⟨oa, oc, hvo⟩ := hown.sl.form
  by_cases hq : most < l.length
  · have dq : decide ((most : Int) < (l.length : Int)) = true := decide_eq_true (by omega)
    have wr : IntKind.i64.wrap ((l.length : Int) - (most : Int)) = ((l.length - most : Nat) : Int) := by rw [wrap64 (by omega) (by omega)]; omega
    obtain ⟨v', hrun, hcut, _, _⟩ := run_cut_low (P := Try.prog) (t := 46) Try.runUnderlying46 Try.sizeOf106 hown.sl (Own.cap hown) .i64 (l.length - most) (by omega)
    rw [hvo] at hrun
    simp (maxSteps := 4000000) (disch := (first | assumption | exact List.not_mem_nil | exact Fr.refl _ _ | ((repeat (first | assumption | apply cur_alloc | apply cur_setB | apply cur_drew | apply cur_drewN)); done) | omega | (simp only [gz, Value.cells, oneC]; first | done | omega) | ((simp only [List.mem_cons, List.not_mem_nil, or_false, gz]); omega) | rfl)) only [↓gsd, gs, ev, Nat.reduceAdd, Nat.reduceEqDiff, oneC, Value.cells, Option.isNone, gt, frT_self, frT_drew, frT_drew0, frT_alloc, ↓hk79, hvo, hh1, dq, wr, hrun]
    refine hK _ _ ?_ hf
    unfold SlOf keptL
    rw [List.length_drop, ← cellsOf_drop encVer_len]
    exact hcut
  · have dq : decide ((most : Int) < (l.length : Int)) = false := decide_eq_false (by omega)
    simp (maxSteps := 4000000) (disch := (first | assumption | exact List.not_mem_nil | exact Fr.refl _ _ | ((repeat (first | assumption | apply cur_alloc | apply cur_setB | apply cur_drew | apply cur_drewN)); done) | omega | (simp only [gz, Value.cells, oneC]; first | done | omega) | ((simp only [List.mem_cons, List.not_mem_nil, or_false, gz]); omega) | rfl)) only [↓gsd, gs, ev, Nat.reduceAdd, Nat.reduceEqDiff, oneC, Value.cells, Option.isNone, gt, frT_self, frT_drew, frT_drew0, frT_alloc, ↓hk79, hvo, hh1, dq]
    rw [← hvo]
    refine hK _ _ ?_ hf
    have : keptL most l = l := by unfold keptL; rw [show l.length - most = 0 by omega]; rfl
    rw [this]
    exact hown.sl
def oldL (most : Nat) (l : List Ver) : Int := if most < l.length then ((l[l.length - most]?).map (·.n)).getD 0 else 0
theorem r5oldest {w : World} {rb most : Nat} {v : Value} {own : List (List Wr)} {key : ByteArray} {K : Value → World → Prop} (h : R5At w rb v most own) (hl : (past own).length ≤ 100000000) (hm : most ≤ 64) (hm1 : 1 ≤ most)
    (hK : ∀ w', Fr [] w w' → K (.int .i64 (oldL most (allP (past own) key))) w') : CallsN Try.prog 77 [.pointer (some ⟨rb, 0, none⟩), .string key] w K := by
  have cw := cur w
  have hh := h.head
  refine call77 ?_
  simp (maxSteps := 4000000) (disch := (first | assumption | exact List.not_mem_nil | exact Fr.refl _ _ | ((repeat (first | assumption | apply cur_alloc | apply cur_setB | apply cur_drew | apply cur_drewN)); done) | omega | (simp only [gz, Value.cells, oneC]; first | done | omega) | ((simp only [List.mem_cons, List.not_mem_nil, or_false, gz]); omega) | rfl)) only [↓gsd, gs, ev, Nat.reduceAdd, Nat.reduceEqDiff, oneC, Value.cells, Option.isNone, gt, frT_self, frT_drew, frT_drew0, frT_alloc, ↓hk77]
  refine r5all h hl fun vo w1 hown hfr hf => ?_
  have cw1 := cur w1
  have hz1 := hf.size
  have hh1 := hf.getN hh
  have hlt1 := lt_of_get _ _ hh1
  obtain ⟨l, hl'⟩ : ∃ l, l = allP (past own) key := ⟨_, rfl⟩
  rw [← hl'] at hown hK
  have hll : l.length ≤ 100000000 := by
    rw [hl']; unfold allP
    rw [List.length_map]
    have := List.length_filter_le (fun p : Past => decide (p.2.key = key)) (past own)
    omega
  obtain ⟨oa, oc, hvo⟩ := hown.sl.form
  by_cases hq : most < l.length
  · have dq : decide ((most : Int) < (l.length : Int)) = true := decide_eq_true (by omega)
    have wr : IntKind.i64.wrap ((l.length : Int) - (most : Int)) = ((l.length - most : Nat) : Int) := by rw [wrap64 (by omega) (by omega)]; omega
    obtain ⟨x, hx⟩ : ∃ x, l[l.length - most]? = some x := ⟨l[l.length - most]'(by omega), List.getElem?_eq_getElem (by omega)⟩
    obtain ⟨b, off, cap, o, hsv, ho, hbl, hrow, hcell⟩ := (show SlOf 3 encVer w1 vo l from hown.sl).read encVer_len _ x hx
    have hc0 := fun orig K => hcell 0 (.int .i64 x.n) orig K rfl
    simp only [Nat.add_zero] at hc0
    have i0 : (0 : Int) ≤ ((l.length - most : Nat) : Int) := by omega
    have i1 : ((l.length - most : Nat) : Int) < (l.length : Int) := by omega
    have e : oldL most l = x.n := by unfold oldL; rw [if_pos hq, hx]; rfl
    rw [e] at hK
    simp (maxSteps := 4000000) (disch := (first | assumption | exact List.not_mem_nil | exact Fr.refl _ _ | ((repeat (first | assumption | apply cur_alloc | apply cur_setB | apply cur_drew | apply cur_drewN)); done) | omega | (simp only [gz, Value.cells, oneC]; first | done | omega) | ((simp only [List.mem_cons, List.not_mem_nil, or_false, gz]); omega) | rfl)) only [↓gsd, gs, ev, Nat.reduceAdd, Nat.reduceEqDiff, oneC, Value.cells, Option.isNone, gt, frT_self, frT_drew, frT_drew0, frT_alloc, ↓hk77, hsv, hh1, dq, wr, i0, i1, Int.toNat_natCast, ho, hc0]
    exact hK _ hf
  · have dq : decide ((most : Int) < (l.length : Int)) = false := decide_eq_false (by omega)
    have e : oldL most l = 0 := by unfold oldL; rw [if_neg hq]
    rw [e] at hK
    simp (maxSteps := 4000000) (disch := (first | assumption | exact List.not_mem_nil | exact Fr.refl _ _ | ((repeat (first | assumption | apply cur_alloc | apply cur_setB | apply cur_drew | apply cur_drewN)); done) | omega | (simp only [gz, Value.cells, oneC]; first | done | omega) | ((simp only [List.mem_cons, List.not_mem_nil, or_false, gz]); omega) | rfl)) only [↓gsd, gs, ev, Nat.reduceAdd, Nat.reduceEqDiff, oneC, Value.cells, Option.isNone, gt, frT_self, frT_drew, frT_drew0, frT_alloc, ↓hk77, hvo, hh1, dq]
    exact hK _ hf
theorem r5sameV {w : World} {va vb : Value} {xs : List Ver} {K : Value → World → Prop} (ha : SlOf 3 encVer w va xs) (hb : SlOf 3 encVer w vb xs) (hm : xs.length ≤ 9223372036854775806) (hK : ∀ w', Fr [] w w' → K (.bool true) w') : CallsN Try.prog 78 [va, vb] w K := by
  have cw := cur w
  obtain ⟨aa, ac, hva⟩ := ha.form
  obtain ⟨ba, bc, hvb⟩ := hb.form
  have d0 : decide ((xs.length : Int) = (xs.length : Int)) = true := decide_eq_true rfl
  refine call78 ?_
  simp (maxSteps := 4000000) (disch := (first | assumption | exact List.not_mem_nil | exact Fr.refl _ _ | ((repeat (first | assumption | apply cur_alloc | apply cur_setB | apply cur_drew | apply cur_drewN)); done) | omega | (simp only [gz, Value.cells, oneC]; first | done | omega) | ((simp only [List.mem_cons, List.not_mem_nil, or_false, gz]); omega) | rfl)) only [↓gsd, gs, ev, Nat.reduceAdd, Nat.reduceEqDiff, oneC, Value.cells, Option.isNone, gt, frT_self, frT_drew, frT_drew0, frT_alloc, ↓hk78, hva, hvb, d0]
  rw [← hva, ← hvb]
  refine loop_intro (fun e w' => ∃ i : Nat, i ≤ xs.length ∧ e 0 = va ∧ e 1 = vb ∧ e 5 = .int .i64 i ∧ Fr [] w w')
    (fun e _ => xs.length - (numOf (e 5)).toNat) ?_ ?_
  · refine ⟨0, Nat.zero_le _, ?_⟩
    simp (maxSteps := 4000000) (disch := (first | assumption | exact List.not_mem_nil | exact Fr.refl _ _ | ((repeat (first | assumption | apply cur_alloc | apply cur_setB | apply cur_drew | apply cur_drewN)); done) | omega | (simp only [gz, Value.cells, oneC]; first | done | omega) | ((simp only [List.mem_cons, List.not_mem_nil, or_false, gz]); omega) | rfl)) only [↓gsd, gs, ev, Nat.reduceAdd, Nat.reduceEqDiff, oneC, Value.cells, Option.isNone, Int.natCast_zero]
    (repeat (first | exact Fr.refl _ _ | assumption | with_reducible apply Fr.alloc | with_reducible apply Fr.drew | with_reducible refine Fr.setB ?_ _ _ (.inr (by first | omega | (simp only [gz]; omega))) | with_reducible refine Fr.setB ?_ _ _ (.inl (by first | assumption | simp)) | with_reducible refine Fr.trans' ?_ (by assumption)))
  rintro e w1 k ⟨i, hi, e0, e1, e5, hf⟩ hk
  have cw1 := cur w1
  have hz1 := hf.size
  by_cases hil : i < xs.length
  · have d : decide ((i : Int) < (xs.length : Int)) = true := decide_eq_true (by omega)
    obtain ⟨x, hxi⟩ : ∃ x, xs[i]? = some x := ⟨xs[i]'(by omega), List.getElem?_eq_getElem (by omega)⟩
    obtain ⟨b1, o1, p1, ob1, hv1, hb1, _, hw1, hc1⟩ := (ha.frN hf).read encVer_len i x hxi
    obtain ⟨b2, o2, p2, ob2, hv2, hb2, _, hw2, hc2⟩ := (hb.frN hf).read encVer_len i x hxi
    have i0 : (0 : Int) ≤ (i : Int) := by omega
    have i1 : (i : Int) < (xs.length : Int) := by omega
    have i3 : ((i : Int) + 1).toNat = i + 1 := by omega
    unfold encVer at hw1 hw2
    have q1 : decide (x.n = x.n) = true := decide_eq_true rfl
    have q2 : decide (x.has = x.has) = true := decide_eq_true rfl
    have q3 : decide (x.data = x.data) = true := decide_eq_true rfl
    simp (maxSteps := 4000000) (disch := (first | assumption | exact List.not_mem_nil | exact Fr.refl _ _ | ((repeat (first | assumption | apply cur_alloc | apply cur_setB | apply cur_drew | apply cur_drewN)); done) | omega | (simp only [gz, Value.cells, oneC]; first | done | omega) | ((simp only [List.mem_cons, List.not_mem_nil, or_false, gz]); omega) | rfl)) only [↓gsd, gs, ev, Nat.reduceAdd, Nat.reduceEqDiff, oneC, Value.cells, Option.isNone, gt, frT_self, frT_drew, frT_drew0, frT_alloc, ↓hk78, e0, e1, e5, hv1, hv2, d, i0, i1, Int.toNat_natCast, hb1, hb2, hw1, hw2, q1, q2, q3]
    refine hk _ _ ⟨i + 1, by omega, ?_⟩ ?_
    · simp (maxSteps := 4000000) (disch := (first | assumption | exact List.not_mem_nil | exact Fr.refl _ _ | ((repeat (first | assumption | apply cur_alloc | apply cur_setB | apply cur_drew | apply cur_drewN)); done) | omega | (simp only [gz, Value.cells, oneC]; first | done | omega) | ((simp only [List.mem_cons, List.not_mem_nil, or_false, gz]); omega) | rfl)) only [↓gsd, gs, ev, Nat.reduceAdd, Nat.reduceEqDiff, oneC, Value.cells, Option.isNone, e0, e1, e5, hv1, hv2, Int.natCast_add, Int.natCast_one]
      exact hf.drew
    · simp (maxSteps := 4000000) (disch := (first | assumption | exact List.not_mem_nil | exact Fr.refl _ _ | ((repeat (first | assumption | apply cur_alloc | apply cur_setB | apply cur_drew | apply cur_drewN)); done) | omega | (simp only [gz, Value.cells, oneC]; first | done | omega) | ((simp only [List.mem_cons, List.not_mem_nil, or_false, gz]); omega) | rfl)) only [↓gsd, gs, ev, Nat.reduceAdd, Nat.reduceEqDiff, oneC, Value.cells, Option.isNone, e5, numOf, Int.toNat_natCast, i3]; omega
  · have d : decide ((i : Int) < (xs.length : Int)) = false := decide_eq_false (by omega)
    simp (maxSteps := 4000000) (disch := (first | assumption | exact List.not_mem_nil | exact Fr.refl _ _ | ((repeat (first | assumption | apply cur_alloc | apply cur_setB | apply cur_drew | apply cur_drewN)); done) | omega | (simp only [gz, Value.cells, oneC]; first | done | omega) | ((simp only [List.mem_cons, List.not_mem_nil, or_false, gz]); omega) | rfl)) only [↓gsd, gs, ev, Nat.reduceAdd, Nat.reduceEqDiff, oneC, Value.cells, Option.isNone, gt, frT_self, frT_drew, frT_drew0, frT_alloc, ↓hk78, e0, e1, e5, hva, d]
    exact hK _ hf
theorem r5sameT {w : World} {va vb : Value} {xs : Ks} {K : Value → World → Prop} (ha : SlOf 1 encS w va xs) (hb : SlOf 1 encS w vb xs) (hm : xs.length ≤ 9223372036854775806) (hK : ∀ w', Fr [] w w' → K (.bool true) w') : CallsN Try.prog 48 [va, vb] w K := by
  have cw := cur w
  obtain ⟨aa, ac, hva⟩ := ha.form
  obtain ⟨ba, bc, hvb⟩ := hb.form
  have d0 : decide ((xs.length : Int) = (xs.length : Int)) = true := decide_eq_true rfl
  refine call48 ?_
  simp (maxSteps := 4000000) (disch := (first | assumption | exact List.not_mem_nil | exact Fr.refl _ _ | ((repeat (first | assumption | apply cur_alloc | apply cur_setB | apply cur_drew | apply cur_drewN)); done) | omega | (simp only [gz, Value.cells, oneC]; first | done | omega) | ((simp only [List.mem_cons, List.not_mem_nil, or_false, gz]); omega) | rfl)) only [↓gsd, gs, ev, Nat.reduceAdd, Nat.reduceEqDiff, oneC, Value.cells, Option.isNone, gt, frT_self, frT_drew, frT_drew0, frT_alloc, ↓hk48, hva, hvb, d0]
  rw [← hva, ← hvb]
  refine loop_intro (fun e w' => ∃ i : Nat, i ≤ xs.length ∧ e 0 = va ∧ e 1 = vb ∧ e 5 = .int .i64 i ∧ Fr [] w w')
    (fun e _ => xs.length - (numOf (e 5)).toNat) ?_ ?_
  · refine ⟨0, Nat.zero_le _, ?_⟩
    simp (maxSteps := 4000000) (disch := (first | assumption | exact List.not_mem_nil | exact Fr.refl _ _ | ((repeat (first | assumption | apply cur_alloc | apply cur_setB | apply cur_drew | apply cur_drewN)); done) | omega | (simp only [gz, Value.cells, oneC]; first | done | omega) | ((simp only [List.mem_cons, List.not_mem_nil, or_false, gz]); omega) | rfl)) only [↓gsd, gs, ev, Nat.reduceAdd, Nat.reduceEqDiff, oneC, Value.cells, Option.isNone, Int.natCast_zero]
    (repeat (first | exact Fr.refl _ _ | assumption | with_reducible apply Fr.alloc | with_reducible apply Fr.drew | with_reducible refine Fr.setB ?_ _ _ (.inr (by first | omega | (simp only [gz]; omega))) | with_reducible refine Fr.setB ?_ _ _ (.inl (by first | assumption | simp)) | with_reducible refine Fr.trans' ?_ (by assumption)))
  rintro e w1 k ⟨i, hi, e0, e1, e5, hf⟩ hk
  have cw1 := cur w1
  have hz1 := hf.size
  by_cases hil : i < xs.length
  · have d : decide ((i : Int) < (xs.length : Int)) = true := decide_eq_true (by omega)
    obtain ⟨x, hxi⟩ : ∃ x, xs[i]? = some x := ⟨xs[i]'(by omega), List.getElem?_eq_getElem (by omega)⟩
    obtain ⟨b1, o1, p1, ob1, hv1, hb1, _, _, hc1⟩ := (ha.frN hf).read encS_len i x hxi
    obtain ⟨b2, o2, p2, ob2, hv2, hb2, _, _, hc2⟩ := (hb.frN hf).read encS_len i x hxi
    have hd1 := fun orig K => hc1 0 (.string x) orig K rfl
    have hd2 := fun orig K => hc2 0 (.string x) orig K rfl
    simp only [Nat.add_zero, Nat.mul_one] at hd1 hd2
    have i0 : (0 : Int) ≤ (i : Int) := by omega
    have i1 : (i : Int) < (xs.length : Int) := by omega
    have i3 : ((i : Int) + 1).toNat = i + 1 := by omega
    have q3 : decide (x = x) = true := decide_eq_true rfl
    simp (maxSteps := 4000000) (disch := (first | assumption | exact List.not_mem_nil | exact Fr.refl _ _ | ((repeat (first | assumption | apply cur_alloc | apply cur_setB | apply cur_drew | apply cur_drewN)); done) | omega | (simp only [gz, Value.cells, oneC]; first | done | omega) | ((simp only [List.mem_cons, List.not_mem_nil, or_false, gz]); omega) | rfl)) only [↓gsd, gs, ev, Nat.reduceAdd, Nat.reduceEqDiff, oneC, Value.cells, Option.isNone, gt, frT_self, frT_drew, frT_drew0, frT_alloc, ↓hk48, e0, e1, e5, hv1, hv2, d, i0, i1, Int.toNat_natCast, Nat.mul_one, hb1, hb2, hd1, hd2, q3]
    refine hk _ _ ⟨i + 1, by omega, ?_⟩ ?_
    · simp (maxSteps := 4000000) (disch := (first | assumption | exact List.not_mem_nil | exact Fr.refl _ _ | ((repeat (first | assumption | apply cur_alloc | apply cur_setB | apply cur_drew | apply cur_drewN)); done) | omega | (simp only [gz, Value.cells, oneC]; first | done | omega) | ((simp only [List.mem_cons, List.not_mem_nil, or_false, gz]); omega) | rfl)) only [↓gsd, gs, ev, Nat.reduceAdd, Nat.reduceEqDiff, oneC, Value.cells, Option.isNone, e0, e1, e5, hv1, hv2, Int.natCast_add, Int.natCast_one]
      exact hf.drew
    · simp (maxSteps := 4000000) (disch := (first | assumption | exact List.not_mem_nil | exact Fr.refl _ _ | ((repeat (first | assumption | apply cur_alloc | apply cur_setB | apply cur_drew | apply cur_drewN)); done) | omega | (simp only [gz, Value.cells, oneC]; first | done | omega) | ((simp only [List.mem_cons, List.not_mem_nil, or_false, gz]); omega) | rfl)) only [↓gsd, gs, ev, Nat.reduceAdd, Nat.reduceEqDiff, oneC, Value.cells, Option.isNone, e5, numOf, Int.toNat_natCast, i3]; omega
  · have d : decide ((i : Int) < (xs.length : Int)) = false := decide_eq_false (by omega)
    simp (maxSteps := 4000000) (disch := (first | assumption | exact List.not_mem_nil | exact Fr.refl _ _ | ((repeat (first | assumption | apply cur_alloc | apply cur_setB | apply cur_drew | apply cur_drewN)); done) | omega | (simp only [gz, Value.cells, oneC]; first | done | omega) | ((simp only [List.mem_cons, List.not_mem_nil, or_false, gz]); omega) | rfl)) only [↓gsd, gs, ev, Nat.reduceAdd, Nat.reduceEqDiff, oneC, Value.cells, Option.isNone, gt, frT_self, frT_drew, frT_drew0, frT_alloc, ↓hk48, e0, e1, e5, hva, d]
    exact hK _ hf
end Go.Proofs.Ytenokheiindfkaa
