/- The reference: Same, SameAll, Append. -/
import Derived.Test.YtenokheiindfkabE1
set_option linter.unusedVariables false
set_option linter.unusedSimpArgs false
set_option maxRecDepth 10000
namespace Go.Proofs.Ytenokheiindfkab
open Go.VW
theorem same_true {r r' : Rc} {ks : Ks} {w : World} {K : Value → World → Prop} (hn : r.n = r'.n) (h : SlOf 1 encS w r.kv ks) (h' : SlOf 1 encS w r'.kv ks) (hl : ks.length ≤ 9223372036854775807)
    (hK : ∀ w', Fr [] w w' → K (.bool true) w') : CallsN Try.prog 24 [r.v, r'.v] w K := by
  have cw := cur w
  obtain ⟨n, a, l, c⟩ := r
  obtain ⟨n', a', l', c'⟩ := r'
  simp only at hn
  subst hn
  obtain ⟨_, _, e1⟩ := SlOf.form h
  obtain ⟨_, _, e2⟩ := SlOf.form h'
  simp only [Rc.kv, Value.slice.injEq] at e1 e2
  obtain ⟨rfl, rfl, rfl⟩ := e1
  obtain ⟨rfl, e2, rfl⟩ := e2
  subst e2
  simp only [Rc.kv] at h h'
  refine call24 ?_
  unfold Rc.v encRc
  simp (maxSteps := 4000000) (disch := (first | assumption | exact List.not_mem_nil | exact Fr.refl _ _ | ((repeat (first | assumption | apply cur_alloc | apply cur_setB | apply cur_drew | apply cur_drewN)); done) | omega | (simp only [gz, Value.cells, oneC]; first | done | omega) | ((simp only [List.mem_cons, List.not_mem_nil, or_false, gz]); omega) | rfl)) only [↓gsd, gs, ev, Nat.reduceAdd, Nat.reduceEqDiff, oneC, Value.cells, Option.isNone, gt, ↓hk24]
  refine loop_intro (fun e w' => ∃ i : Nat, i ≤ ks.length ∧ e 2 = .pointer (some ⟨w.heap.size, 0, none⟩) ∧ e 3 = .pointer (some ⟨w.heap.size + 1, 0, none⟩) ∧ e 5 = .int .i64 i ∧
      w'.heap[w.heap.size]? = some (.cells ([.int .i64 n, .slice a ks.length c] : List Value).toArray 47 (0, 0)) ∧ w'.heap[w.heap.size + 1]? = some (.cells ([.int .i64 n, .slice a' ks.length c'] : List Value).toArray 47 (0, 0)) ∧ Fr [] w w')
    (fun e _ => ks.length - (numOf (e 5)).toNat) ?_ ?_
  · refine ⟨0, Nat.zero_le _, ?_⟩
    simp (maxSteps := 4000000) (disch := (first | assumption | exact List.not_mem_nil | exact Fr.refl _ _ | ((repeat (first | assumption | apply cur_alloc | apply cur_setB | apply cur_drew | apply cur_drewN)); done) | omega | (simp only [gz, Value.cells, oneC]; first | done | omega) | ((simp only [List.mem_cons, List.not_mem_nil, or_false, gz]); omega) | rfl)) only [↓gsd, gs, ev, Nat.reduceAdd, Nat.reduceEqDiff, oneC, Value.cells, Option.isNone, Int.natCast_zero]
    (repeat (first | exact Fr.refl _ _ | assumption | with_reducible apply Fr.alloc | with_reducible apply Fr.drew | with_reducible refine Fr.setB ?_ _ _ (.inr (by first | omega | (simp only [gz]; omega))) | with_reducible refine Fr.setB ?_ _ _ (.inl (by first | assumption | simp)) | with_reducible refine Fr.trans' ?_ (by assumption)))
  rintro e w1 k ⟨i, hi, e2, e3, e5, g2, g3, hf⟩ hk
  have cw1 := cur w1
  have hz1 := hf.size
  have hlt2 := lt_of_get _ _ g2
  have hlt3 := lt_of_get _ _ g3
  by_cases hil : i < ks.length
  · have d : decide ((i : Int) < (ks.length : Int)) = true := decide_eq_true (by omega)
    obtain ⟨s, hs⟩ : ∃ s, ks[i]? = some s := ⟨ks[i], List.getElem?_eq_getElem hil⟩
    obtain ⟨b1, o1, p1, ob1, hv1, hb1, _, _, hc1⟩ := (h.frN hf).read encS_len i s hs
    obtain ⟨b2, o2, p2, ob2, hv2, hb2, _, _, hc2⟩ := (h'.frN hf).read encS_len i s hs
    simp only [Value.slice.injEq] at hv1 hv2
    obtain ⟨rfl, _, rfl⟩ := hv1
    obtain ⟨rfl, _, rfl⟩ := hv2
    have hd1 := fun orig K => hc1 0 (.string s) orig K rfl
    have hd2 := fun orig K => hc2 0 (.string s) orig K rfl
    simp only [Nat.mul_one, Nat.add_zero] at hd1 hd2
    have i0 : (0 : Int) ≤ (i : Int) := by omega
    have i1 : (i : Int) < (ks.length : Int) := by omega
    have i3 : ((i : Int) + 1).toNat = i + 1 := by omega
    simp (maxSteps := 4000000) (disch := (first | assumption | exact List.not_mem_nil | exact Fr.refl _ _ | ((repeat (first | assumption | apply cur_alloc | apply cur_setB | apply cur_drew | apply cur_drewN)); done) | omega | (simp only [gz, Value.cells, oneC]; first | done | omega) | ((simp only [List.mem_cons, List.not_mem_nil, or_false, gz]); omega) | rfl)) only [↓gsd, gs, ev, Nat.reduceAdd, Nat.reduceEqDiff, oneC, Value.cells, Option.isNone, gt, frT_self, frT_drew, frT_drew0, frT_alloc, ↓hk24, e2, e3, e5, g2, g3, d, i0, i1, Int.toNat_natCast, Nat.mul_one, hb1, hb2, hd1, hd2]
    refine hk _ _ ⟨i + 1, by omega, ?_⟩ ?_
    · simp (maxSteps := 4000000) (disch := (first | assumption | exact List.not_mem_nil | exact Fr.refl _ _ | ((repeat (first | assumption | apply cur_alloc | apply cur_setB | apply cur_drew | apply cur_drewN)); done) | omega | (simp only [gz, Value.cells, oneC]; first | done | omega) | ((simp only [List.mem_cons, List.not_mem_nil, or_false, gz]); omega) | rfl)) only [↓gsd, gs, ev, Nat.reduceAdd, Nat.reduceEqDiff, oneC, Value.cells, Option.isNone, e2, e3, e5, g2, g3, Int.natCast_add, Int.natCast_one]
      exact hf.drew
    · simp (maxSteps := 4000000) (disch := (first | assumption | exact List.not_mem_nil | exact Fr.refl _ _ | ((repeat (first | assumption | apply cur_alloc | apply cur_setB | apply cur_drew | apply cur_drewN)); done) | omega | (simp only [gz, Value.cells, oneC]; first | done | omega) | ((simp only [List.mem_cons, List.not_mem_nil, or_false, gz]); omega) | rfl)) only [↓gsd, gs, ev, Nat.reduceAdd, Nat.reduceEqDiff, oneC, Value.cells, Option.isNone, e5, numOf, Int.toNat_natCast, i3]; omega
  · have d : decide ((i : Int) < (ks.length : Int)) = false := decide_eq_false (by omega)
    simp (maxSteps := 4000000) (disch := (first | assumption | exact List.not_mem_nil | exact Fr.refl _ _ | ((repeat (first | assumption | apply cur_alloc | apply cur_setB | apply cur_drew | apply cur_drewN)); done) | omega | (simp only [gz, Value.cells, oneC]; first | done | omega) | ((simp only [List.mem_cons, List.not_mem_nil, or_false, gz]); omega) | rfl)) only [↓gsd, gs, ev, Nat.reduceAdd, Nat.reduceEqDiff, oneC, Value.cells, Option.isNone, gt, ↓hk24, e2, e3, e5, g2, g3, d]
    exact hK _ hf
theorem sameAll_true {va vb : Value} {xs : List (Int × Ks)} {R1 R2 Q1 Q2 : Nat → Prop} {w : World} {K : Value → World → Prop} (ha : RcsAt w R1 R2 va xs) (hb : RcsAt w Q1 Q2 vb xs) (hm : xs.length ≤ 9223372036854775806) (hx : ∀ x ∈ xs, x.2.length ≤ 8)
    (hK : ∀ w', Fr [] w w' → K (.bool true) w') : CallsN Try.prog 18 [va, vb] w K := by
  have cw := cur w
  obtain ⟨⟨rs, hown, hrl, hat⟩, _⟩ := ha
  obtain ⟨⟨rs', hown', hrl', hat'⟩, _⟩ := hb
  obtain ⟨aa, ac, hva⟩ := hown.sl.form
  obtain ⟨ba, bc, hvb⟩ := hown'.sl.form
  have d0 : decide ((rs.length : Int) = (rs'.length : Int)) = true := decide_eq_true (by omega)
  refine call18 ?_
  simp (maxSteps := 4000000) (disch := (first | assumption | exact List.not_mem_nil | exact Fr.refl _ _ | ((repeat (first | assumption | apply cur_alloc | apply cur_setB | apply cur_drew | apply cur_drewN)); done) | omega | (simp only [gz, Value.cells, oneC]; first | done | omega) | ((simp only [List.mem_cons, List.not_mem_nil, or_false, gz]); omega) | rfl)) only [↓gsd, gs, ev, Nat.reduceAdd, Nat.reduceEqDiff, oneC, Value.cells, Option.isNone, gt, ↓hk18, hva, hvb, d0]
  rw [← hva, ← hvb]
  refine loop_intro (fun e w' => ∃ i : Nat, i ≤ rs.length ∧ e 0 = va ∧ e 1 = vb ∧ e 5 = .int .i64 i ∧ Fr [] w w')
    (fun e _ => rs.length - (numOf (e 5)).toNat) ?_ ?_
  · refine ⟨0, Nat.zero_le _, ?_⟩
    simp (maxSteps := 4000000) (disch := (first | assumption | exact List.not_mem_nil | exact Fr.refl _ _ | ((repeat (first | assumption | apply cur_alloc | apply cur_setB | apply cur_drew | apply cur_drewN)); done) | omega | (simp only [gz, Value.cells, oneC]; first | done | omega) | ((simp only [List.mem_cons, List.not_mem_nil, or_false, gz]); omega) | rfl)) only [↓gsd, gs, ev, Nat.reduceAdd, Nat.reduceEqDiff, oneC, Value.cells, Option.isNone, Int.natCast_zero]
    (repeat (first | exact Fr.refl _ _ | assumption | with_reducible apply Fr.alloc | with_reducible apply Fr.drew | with_reducible refine Fr.setB ?_ _ _ (.inr (by first | omega | (simp only [gz]; omega))) | with_reducible refine Fr.setB ?_ _ _ (.inl (by first | assumption | simp)) | with_reducible refine Fr.trans' ?_ (by assumption)))
  rintro e w1 k ⟨i, hi, e0, e1, e5, hf⟩ hk
  have cw1 := cur w1
  have hz1 := hf.size
  by_cases hil : i < rs.length
  · have d : decide ((i : Int) < (rs.length : Int)) = true := decide_eq_true (by omega)
    obtain ⟨r, hr⟩ : ∃ r, rs[i]? = some r := ⟨rs[i], List.getElem?_eq_getElem hil⟩
    obtain ⟨r', hr'⟩ : ∃ r', rs'[i]? = some r' := ⟨rs'[i]'(by omega), List.getElem?_eq_getElem (by omega)⟩
    obtain ⟨x, hxi⟩ : ∃ x, xs[i]? = some x := ⟨xs[i]'(by omega), List.getElem?_eq_getElem (by omega)⟩
    obtain ⟨b1, o1, p1, ob1, hv1, hb1, _, hw1, hc1⟩ := (show SlOf 2 encRc w1 va rs from hown.sl.frN hf).read encRc_len i r hr
    obtain ⟨b2, o2, p2, ob2, hv2, hb2, _, hw2, hc2⟩ := (show SlOf 2 encRc w1 vb rs' from hown'.sl.frN hf).read encRc_len i r' hr'
    obtain ⟨q1, q2, _⟩ := hat i r x hr hxi
    obtain ⟨p1, p2, _⟩ := hat' i r' x hr' hxi
    have hx8 := hx x (List.mem_of_getElem? hxi)
    have i0 : (0 : Int) ≤ (i : Int) := by omega
    have i1 : (i : Int) < (rs.length : Int) := by omega
    have i2 : (i : Int) < (rs'.length : Int) := by omega
    have i3 : ((i : Int) + 1).toNat = i + 1 := by omega
    simp (maxSteps := 4000000) (disch := (first | assumption | exact List.not_mem_nil | exact Fr.refl _ _ | ((repeat (first | assumption | apply cur_alloc | apply cur_setB | apply cur_drew | apply cur_drewN)); done) | omega | (simp only [gz, Value.cells, oneC]; first | done | omega) | ((simp only [List.mem_cons, List.not_mem_nil, or_false, gz]); omega) | rfl)) only [↓gsd, gs, ev, Nat.reduceAdd, Nat.reduceEqDiff, oneC, Value.cells, Option.isNone, gt, frT_self, frT_drew, frT_drew0, frT_alloc, ↓hk18, e0, e1, e5, hv1, hv2, d, i0, i1, i2, Int.toNat_natCast, hb1, hb2, hw1, hw2]
    refine same_true (r := r) (r' := r') (ks := x.2) (by rw [q1, p1]) (((show SlOf 1 encS w r.kv x.2 from q2.sl).frN hf).frN (Fr.refl _ _).drew) (((show SlOf 1 encS w r'.kv x.2 from p2.sl).frN hf).frN (Fr.refl _ _).drew) (by omega) fun w2 hf2 => ?_
    have cw2 := cur w2
    have hz2 := hf2.size
    simp (maxSteps := 4000000) (disch := (first | assumption | exact List.not_mem_nil | exact Fr.refl _ _ | ((repeat (first | assumption | apply cur_alloc | apply cur_setB | apply cur_drew | apply cur_drewN)); done) | omega | (simp only [gz, Value.cells, oneC]; first | done | omega) | ((simp only [List.mem_cons, List.not_mem_nil, or_false, gz]); omega) | rfl)) only [↓gsd, gs, ev, Nat.reduceAdd, Nat.reduceEqDiff, oneC, Value.cells, Option.isNone, gt, frT_self, frT_drew, frT_drew0, frT_alloc, eq_true hf2, ↓hk18, e0, e1, e5]
    refine hk _ _ ⟨i + 1, by omega, ?_⟩ ?_
    · simp (maxSteps := 4000000) (disch := (first | assumption | exact List.not_mem_nil | exact Fr.refl _ _ | ((repeat (first | assumption | apply cur_alloc | apply cur_setB | apply cur_drew | apply cur_drewN)); done) | omega | (simp only [gz, Value.cells, oneC]; first | done | omega) | ((simp only [List.mem_cons, List.not_mem_nil, or_false, gz]); omega) | rfl)) only [↓gsd, gs, ev, Nat.reduceAdd, Nat.reduceEqDiff, oneC, Value.cells, Option.isNone, e0, e1, e5, hv1, hv2, Int.natCast_add, Int.natCast_one]
      exact hf.trans' ((Fr.refl _ _).drew.trans' hf2)
    · simp (maxSteps := 4000000) (disch := (first | assumption | exact List.not_mem_nil | exact Fr.refl _ _ | ((repeat (first | assumption | apply cur_alloc | apply cur_setB | apply cur_drew | apply cur_drewN)); done) | omega | (simp only [gz, Value.cells, oneC]; first | done | omega) | ((simp only [List.mem_cons, List.not_mem_nil, or_false, gz]); omega) | rfl)) only [↓gsd, gs, ev, Nat.reduceAdd, Nat.reduceEqDiff, oneC, Value.cells, Option.isNone, e5, numOf, Int.toNat_natCast, i3]; omega
  · have d : decide ((i : Int) < (rs.length : Int)) = false := decide_eq_false (by omega)
    simp (maxSteps := 4000000) (disch := (first | assumption | exact List.not_mem_nil | exact Fr.refl _ _ | ((repeat (first | assumption | apply cur_alloc | apply cur_setB | apply cur_drew | apply cur_drewN)); done) | omega | (simp only [gz, Value.cells, oneC]; first | done | omega) | ((simp only [List.mem_cons, List.not_mem_nil, or_false, gz]); omega) | rfl)) only [↓gsd, gs, ev, Nat.reduceAdd, Nat.reduceEqDiff, oneC, Value.cells, Option.isNone, gt, ↓hk18, e0, e1, e5, hva, d]
    exact hK _ hf
/-- The reference's log. -/
structure RLogAt (w : World) (rb : Nat) (Wr Rd : List Nat) (L : List Ks) : Prop where
  ex : ∃ v, w.heap[rb]? = some (.cells ([v] : List Value).toArray 38 (0, 0)) ∧ RcsAt w (· ∈ Rd) (· ∈ Wr) v (recsL L)
  rb : rb ∈ Wr
  lt : ∀ x, x ∈ Wr ∨ x ∈ Rd → x < w.heap.size
theorem RLogAt.fr {w w' : World} {rb : Nat} {Wr Rd : List Nat} {L : List Ks} (h : RLogAt w rb Wr Rd L) {M : List Nat} (hf : Fr M w w') (hM : ∀ x ∈ M, x ∉ Wr ∧ x ∉ Rd) : RLogAt w' rb Wr Rd L := by
  obtain ⟨⟨v, hh, hr⟩, h1, h2⟩ := h
  exact ⟨⟨v, hf.get hh fun hm => (hM _ hm).1 h1, hr.fr hf fun b hb => ⟨(hM b hb).2, (hM b hb).1⟩⟩, h1, fun x hx => hf.lt (h2 x hx)⟩
theorem RLogAt.frN {w w' : World} {rb : Nat} {Wr Rd : List Nat} {L : List Ks} (h : RLogAt w rb Wr Rd L) (hf : Fr [] w w') : RLogAt w' rb Wr Rd L := h.fr hf (by simp)
/-- What the reference's Append answers. -/
def rappL (L : List Ks) (ks : Ks) : (Int × Int) × List Ks := if chkK ks ≠ 0 then ((0, chkK ks), L) else (((L.length : Int) + 1, 0), L ++ [ks])
theorem rappL_eq {L : List Ks} {ks : Ks} (h : L.length < 1099511627776) : rappL L ks = appL L ks := by
  unfold rappL appL
  by_cases hc : chkK ks = 0
  · rw [if_neg (by simp [hc]), if_neg (by simp [hc]), if_neg (by omega)]
  · rw [if_pos hc, if_pos hc]
theorem recsL_app (L : List Ks) (ks : Ks) : recsL (L ++ [ks]) = recsL L ++ [((L.length : Int) + 1, ks)] := by
  apply List.ext_getElem?
  intro i
  rw [recsL_get]
  by_cases hi : i < L.length
  · rw [List.getElem?_append_left hi, List.getElem?_append_left (by rw [recsL_len]; exact hi), recsL_get]
  · by_cases h2 : i = L.length
    · subst h2
      rw [List.getElem?_concat_length]
      have := List.getElem?_concat_length (l := recsL L) (a := ((L.length : Int) + 1, ks))
      rw [recsL_len] at this
      rw [this]; rfl
    · rw [List.getElem?_eq_none (by simp; omega), List.getElem?_eq_none (by simp [recsL_len]; omega)]; rfl
set_option maxHeartbeats 8000000 in
theorem rappend_log {w : World} {rb : Nat} {Wr Rd : List Nat} {L : List Ks} {va : Value} {ks : Ks} {K : Value → World → Prop} (h : RLogAt w rb Wr Rd L) (ha : SlOf 1 encS w va ks) (hl : ks.length ≤ 9223372036854775807) (hL : L.length + 1 ≤ 2000000000000)
    (hK : ∀ w' Wr' Rd', RLogAt w' rb Wr' Rd' (rappL L ks).2 → Fr Wr w w' → (∀ x ∈ Wr', x ∈ Wr ∨ w.heap.size ≤ x) → (∀ x ∈ Rd', x ∈ Rd ∨ w.heap.size ≤ x) → K (.tuple ([.int .i64 (rappL L ks).1.1, .int .i64 (rappL L ks).1.2] : List Value).toArray) w') :
    CallsN Try.prog 16 [.pointer (some ⟨rb, 0, none⟩), va] w K := by
  have cw := cur w
  refine call16 ?_
  simp (maxSteps := 4000000) (disch := (first | assumption | exact List.not_mem_nil | exact Fr.refl _ _ | ((repeat (first | assumption | apply cur_alloc | apply cur_setB | apply cur_drew | apply cur_drewN)); done) | omega | (simp only [gz, Value.cells, oneC]; first | done | omega) | ((simp only [List.mem_cons, List.not_mem_nil, or_false, gz]); omega) | rfl)) only [↓gsd, gs, ev, Nat.reduceAdd, Nat.reduceEqDiff, oneC, Value.cells, Option.isNone, gt, ↓hk16]
  refine rcheck_spec ha hl fun w1 hf1 => ?_
  have cw1 := cur w1
  have hz1 := hf1.size
  have h1 := h.frN hf1
  have hfW : Fr Wr w w1 := Fr.trans (M' := []) (Fr.refl _ w) hf1 (by simp)
  by_cases hc : chkK ks = 0
  case neg =>
    have d0 : decide (chkK ks = 0) = false := decide_eq_false hc
    have e : rappL L ks = ((0, chkK ks), L) := by unfold rappL; rw [if_pos hc]
    rw [e] at hK
    simp (maxSteps := 4000000) (disch := (first | assumption | exact List.not_mem_nil | exact Fr.refl _ _ | ((repeat (first | assumption | apply cur_alloc | apply cur_setB | apply cur_drew | apply cur_drewN)); done) | omega | (simp only [gz, Value.cells, oneC]; first | done | omega) | ((simp only [List.mem_cons, List.not_mem_nil, or_false, gz]); omega) | rfl)) only [↓gsd, gs, ev, Nat.reduceAdd, Nat.reduceEqDiff, oneC, Value.cells, Option.isNone, gt, ↓hk16, d0]
    exact hK w1 Wr Rd h1 hfW (fun x hx => .inl hx) (fun x hx => .inl hx)
  have e : rappL L ks = (((L.length : Int) + 1, 0), L ++ [ks]) := by unfold rappL; rw [if_neg (by simp [hc])]
  rw [e] at hK
  rw [hc]
  obtain ⟨q1, q2, q3⟩ := chkK_ok hc
  obtain ⟨⟨vl, hh, hr⟩, g1, g2⟩ := h1
  have hlt := lt_of_get _ _ hh
  obtain ⟨la, lc, hv⟩ := hr.form
  rw [recsL_len] at hv
  obtain ⟨v2, w2, hr2, hown2, hf2, hbk2⟩ := ap30 (ty := 30) (Own.nil (k := 1) (e := 9) (w := w1)) (ha.frN hf1) (cells_oneC (enc := encS) (fun _ => rfl) ks) (by omega)
  have cw2 := cur w2
  have hz2 := hf2.size
  have hf2N : Fr [] w1 w2 := hf2.trans (M' := []) (Fr.refl _ _) (by simp) |>.mono (by simp [blkL, Value.ownBlock])
  have hfr2 : ∀ b, v2.ownBlock = some b → w1.heap.size ≤ b := fun b hb => by
    rcases hbk2 with e | ⟨b', e1, e2⟩
    · rw [e] at hb; simp [Value.ownBlock] at hb
    · rw [e1] at hb; cases hb; exact e2
  simp only [List.nil_append, Nat.zero_add] at hown2
  obtain ⟨r, hr1, hr2'⟩ := Rc.form hown2 ((L.length : Int) + 1)
  have hh2 := hf2N.getN hh
  have hlt2 := lt_of_get _ _ hh2
  have hh2' := hh2
  rw [hv] at hh2'
  have wr : IntKind.i64.wrap ((L.length : Int) + 1) = (L.length : Int) + 1 := wrap64 (by omega) (by omega)
  have hkv : v2 = .slice r.a r.l r.c := hr2'.symm
  rw [hkv] at hr2
  simp (maxSteps := 4000000) (disch := (first | assumption | exact List.not_mem_nil | exact Fr.refl _ _ | ((repeat (first | assumption | apply cur_alloc | apply cur_setB | apply cur_drew | apply cur_drewN)); done) | omega | (simp only [gz, Value.cells, oneC]; first | done | omega) | ((simp only [List.mem_cons, List.not_mem_nil, or_false, gz]); omega) | rfl)) only [↓gsd, gs, ev, Nat.reduceAdd, Nat.reduceEqDiff, oneC, Value.cells, Option.isNone, gt, ↓hk16, hr2, hh2', wr]
  generalize hW : World.alloc w2 _ = w3
  have hf3 : Fr [] w2 w3 := by rw [← hW]; (repeat (first | exact Fr.refl _ _ | assumption | with_reducible apply Fr.alloc | with_reducible apply Fr.drew | with_reducible refine Fr.setB ?_ _ _ (.inr (by first | omega | (simp only [gz]; omega))) | with_reducible refine Fr.setB ?_ _ _ (.inl (by first | assumption | simp)) | with_reducible refine Fr.trans' ?_ (by assumption)))
  have hz3 : w3.heap.size = w2.heap.size + 1 := by rw [← hW]; simp only [gz]
  have hsl : Sl 2 w3 (.slice (some ⟨w2.heap.size, 0, none⟩) 1 1) 1 (encRc r) := by
    rw [← hW, ← hr1]
    exact ⟨rfl, .inr ⟨w2.heap.size, 0, 1, (encRc r).toArray, 47, (0, 0), rfl, get_alloc_new _ _, rfl⟩⟩
  clear hW
  have cw3 := cur w3
  have hrc3 : RcIs w3 (fun b => b ∈ Rd ++ blkL v2) r ((L.length : Int) + 1, ks) := ⟨hr1, by rw [hr2']; exact Go.Proofs.Ytenokheiindfkab.Own.frN hown2 hf3, fun b hb => by rw [hr2'] at hb; exact List.mem_append_right _ (mem_blkL.2 hb)⟩
  obtain ⟨v4, w4, hr4, hrs4, hf4⟩ := RcsAt.app (R' := fun b => b ∈ Wr ∨ w3.heap.size ≤ b) (((hr.frN hf2N).frN hf3).mono (fun b hb => List.mem_append_left _ hb) (fun b hb => .inl hb)) hrc3 (by rw [recsL_len]; omega) hsl (fun b hb => .inr hb)
  have cw4 := cur w4
  have hz4 := hf4.size
  obtain ⟨a4, c4, hv4⟩ := hrs4.form
  rw [← recsL_app, recsL_len] at hv4
  rw [hv, hv4] at hr4
  have hh3 := hf3.getN hh2
  have hr0 := hr
  obtain ⟨⟨rs0, ho0, hol0, _⟩, _⟩ := hr0
  have ho3 : Own 2 47 w3 vl rs0.length _ := (ho0.frN hf2N).frN hf3
  have hnb : rb ∉ blkL vl := fun hm => own_head ho3 hh3 (by decide) (mem_blkL.1 hm)
  have hh4 := hf4.get hh3 hnb
  have hlt4 := lt_of_get _ _ hh4
  rw [hv] at hh4
  simp (maxSteps := 4000000) (disch := (first | assumption | exact List.not_mem_nil | exact Fr.refl _ _ | ((repeat (first | assumption | apply cur_alloc | apply cur_setB | apply cur_drew | apply cur_drewN)); done) | omega | (simp only [gz, Value.cells, oneC]; first | done | omega) | ((simp only [List.mem_cons, List.not_mem_nil, or_false, gz]); omega) | rfl)) only [↓gsd, gs, ev, Nat.reduceAdd, Nat.reduceEqDiff, oneC, Value.cells, Option.isNone, gt, ↓hk16, hr4, hh4]
  have hown2b : ∀ b, v2.ownBlock = some b → b < w3.heap.size := fun b hb => (Go.Proofs.Ytenokheiindfkab.Own.frN hown2 hf3).lt hb
  rw [← hv4]
  generalize hW : World.setB w4 rb _ = w5
  have hf5 : Fr [rb] w4 w5 := by rw [← hW]; (repeat (first | exact Fr.refl _ _ | assumption | with_reducible apply Fr.alloc | with_reducible apply Fr.drew | with_reducible refine Fr.setB ?_ _ _ (.inr (by first | omega | (simp only [gz]; omega))) | with_reducible refine Fr.setB ?_ _ _ (.inl (by first | assumption | simp)) | with_reducible refine Fr.trans' ?_ (by assumption)))
  have hz5 : w5.heap.size = w4.heap.size := by rw [← hW]; simp only [gz]
  have hh5 : w5.heap[rb]? = some (.cells ([v4] : List Value).toArray 38 (0, 0)) := by rw [← hW]; simp (maxSteps := 4000000) (disch := (first | assumption | exact List.not_mem_nil | exact Fr.refl _ _ | ((repeat (first | assumption | apply cur_alloc | apply cur_setB | apply cur_drew | apply cur_drewN)); done) | omega | (simp only [gz, Value.cells, oneC]; first | done | omega) | ((simp only [List.mem_cons, List.not_mem_nil, or_false, gz]); omega) | rfl)) only [↓gsd, gs, ev, Nat.reduceAdd, Nat.reduceEqDiff, oneC, Value.cells, Option.isNone]
  clear hW
  have hlw : ∀ b, b ∈ blkL vl → b ∈ Wr := fun b hb => hr.blk b (mem_blkL.1 hb)
  have hF4 : Fr Wr w w4 := ((hfW.trans' hf2N).trans' hf3).trans hf4 fun x hx => .inl (hlw x hx)
  have hF5 : Fr Wr w w5 := hF4.trans hf5 fun x hx => by simp at hx; subst hx; exact .inl g1
  have hsz := hf1.size
  rw [← recsL_app] at hrs4
  obtain ⟨⟨rs4, ho4, hol4, hat4⟩, hbl4⟩ := hrs4
  have ho5 : Own 2 47 w5 v4 rs4.length (cellsOf encRc rs4) := ho4.fr hf5 (by
    intro x hx; simp at hx; subst hx
    exact own_head ho4 (hf4.get hh3 hnb) (by decide))
  refine hK w5 (Wr ++ blkL v4) (Rd ++ blkL v2) ⟨⟨v4, hh5, ⟨⟨rs4, ho5, hol4, fun i r x hr hx => ?_⟩, fun b hb => List.mem_append_right _ (mem_blkL.2 hb)⟩⟩, List.mem_append_left _ g1, fun x hx => ?_⟩ hF5 (fun x hx => ?_) (fun x hx => ?_)
  · obtain ⟨t1, t2, t3⟩ := hat4 i r x hr hx
    exact ⟨t1, t2.fr hf5 (by
      intro y hy e; simp at hy; subst hy
      exact own_head t2 (hf4.get hh3 hnb) (by decide) e), t3⟩
  · rcases hx with hx | hx
    · rcases List.mem_append.1 hx with hx | hx
      · have := g2 x (.inl hx); omega
      · exact ho5.lt (mem_blkL.1 hx)
    · rcases List.mem_append.1 hx with hx | hx
      · have := g2 x (.inr hx); omega
      · have := hown2b x (mem_blkL.1 hx); omega
  · rcases List.mem_append.1 hx with hx | hx
    · exact .inl hx
    · rcases hbl4 x (mem_blkL.1 hx) with h | h
      · exact .inl h
      · right; omega
  · rcases List.mem_append.1 hx with hx | hx
    · exact .inl hx
    · have := hfr2 x (mem_blkL.1 hx); right; omega
end Go.Proofs.Ytenokheiindfkab
