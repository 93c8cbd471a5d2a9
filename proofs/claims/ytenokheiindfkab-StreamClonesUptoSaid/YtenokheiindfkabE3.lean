/- The reference: From, First. -/
import Derived.Test.YtenokheiindfkabE2
set_option linter.unusedVariables false
set_option linter.unusedSimpArgs false
set_option maxRecDepth 10000
namespace Go.Proofs.Ytenokheiindfkab
open Go.VW
set_option maxHeartbeats 8000000 in
theorem rfrom_log {w : World} {rb : Nat} {Wr Rd : List Nat} {L : List Ks} {n m : Int} {K : Value → World → Prop} (h : RLogAt w rb Wr Rd L) (hL : L.length + 1 ≤ 1999999999999)
    (hK : ∀ v w', RcsAt w' (· ∈ Rd) (fun b => w.heap.size ≤ b) v (fromL L n m) → Fr [] w w' → K v w') : CallsN Try.prog 25 [.pointer (some ⟨rb, 0, none⟩), .int .i64 n, .int .i64 m] w K := by
  have cw := cur w
  obtain ⟨⟨vl, hh, hrs⟩, g1, g2⟩ := h
  obtain ⟨⟨rs, hown, hrl, hat⟩, _⟩ := hrs
  rw [recsL_len] at hrl
  obtain ⟨la, lc, hv⟩ := hown.sl.form
  obtain ⟨d, hd⟩ : ∃ d, d = (n - 1).toNat := ⟨_, rfl⟩
  have hlt := lt_of_get _ _ hh
  have hh' := hh
  rw [hv] at hh'
  refine call25 ?_
  simp (maxSteps := 4000000) (disch := (first | assumption | exact List.not_mem_nil | exact Fr.refl _ _ | ((repeat (first | assumption | apply cur_alloc | apply cur_setB | apply cur_drew | apply cur_drewN)); done) | omega | (simp only [gz, Value.cells, oneC]; first | done | omega) | ((simp only [List.mem_cons, List.not_mem_nil, or_false, gz]); omega) | rfl)) only [↓gsd, gs, ev, Nat.reduceAdd, Nat.reduceEqDiff, oneC, Value.cells, Option.isNone, gt, ↓hk25]
  refine loop_intro (fun e w' => ∃ (i : Nat) (vo : Value), i ≤ rs.length ∧ e 0 = .pointer (some ⟨rb, 0, none⟩) ∧ e 1 = .int .i64 n ∧ e 2 = .int .i64 m ∧ e 7 = vo ∧ e 8 = .int .i64 i ∧
      RcsAt w' (· ∈ Rd) (fun b => w.heap.size ≤ b) vo (((recsL L).drop d).take (min m.toNat (i - d))) ∧ Fr [] w w') (fun e _ => rs.length - (numOf (e 8)).toNat) ?_ ?_
  · refine ⟨0, .slice none 0 0, Nat.zero_le _, ?_⟩
    simp (maxSteps := 4000000) (disch := (first | assumption | exact List.not_mem_nil | exact Fr.refl _ _ | ((repeat (first | assumption | apply cur_alloc | apply cur_setB | apply cur_drew | apply cur_drewN)); done) | omega | (simp only [gz, Value.cells, oneC]; first | done | omega) | ((simp only [List.mem_cons, List.not_mem_nil, or_false, gz]); omega) | rfl)) only [↓gsd, gs, ev, Nat.reduceAdd, Nat.reduceEqDiff, oneC, Value.cells, Option.isNone, Int.natCast_zero, Nat.zero_sub, Nat.min_zero]
    exact ⟨RcsAt.nil, Fr.refl _ _⟩
  rintro e w1 k ⟨i, vo, hi, e0, e1, e2, e7, e8, hr, hf⟩ hk
  have cw1 := cur w1
  have hz1 := hf.size
  have hh1 := hf.getN hh'
  obtain ⟨oa, oc, hvo⟩ := hr.form
  have hol : (((recsL L).drop d).take (min m.toNat (i - d))).length = min m.toNat (i - d) := by rw [List.length_take, List.length_drop, recsL_len]; omega
  rw [hol] at hvo
  by_cases hil : i < rs.length
  · have d1 : decide ((i : Int) < (rs.length : Int)) = true := decide_eq_true (by omega)
    by_cases c2 : ((min m.toNat (i - d) : Nat) : Int) < m
    · have d2 : decide (((min m.toNat (i - d) : Nat) : Int) < m) = true := decide_eq_true c2
      have i0 : (0 : Int) ≤ (i : Int) := by omega
      have i1 : (i : Int) < (rs.length : Int) := by omega
      have i3 : ((i : Int) + 1).toNat = i + 1 := by omega
      obtain ⟨r, hri⟩ : ∃ r, rs[i]? = some r := ⟨rs[i], List.getElem?_eq_getElem hil⟩
      obtain ⟨ks, hks⟩ : ∃ ks, L[i]? = some ks := ⟨L[i]'(by omega), List.getElem?_eq_getElem (by omega)⟩
      have hxi : (recsL L)[i]? = some ((i : Int) + 1, ks) := by rw [recsL_get, hks]; rfl
      obtain ⟨q1, q2, q3⟩ := hat i r _ hri hxi
      obtain ⟨b1, o1, p1, ob1, hv1, hb1, hbl1, hw1, hc1⟩ := (show SlOf 2 encRc w1 vl rs from hown.sl.frN hf).read encRc_len i r hri
      have hd1 := fun orig K => hc1 0 (.int .i64 r.n) orig K rfl
      simp only [Nat.add_zero] at hd1
      rw [hv1] at hv
      simp only [Value.slice.injEq] at hv
      obtain ⟨rfl, _, rfl⟩ := hv
      simp only [encRc] at hw1
      by_cases c3 : n ≤ (i : Int) + 1
      · have d3 : decide (n ≤ r.n) = true := decide_eq_true (by rw [q1]; exact c3)
        simp (maxSteps := 4000000) (disch := (first | assumption | exact List.not_mem_nil | exact Fr.refl _ _ | ((repeat (first | assumption | apply cur_alloc | apply cur_setB | apply cur_drew | apply cur_drewN)); done) | omega | (simp only [gz, Value.cells, oneC]; first | done | omega) | ((simp only [List.mem_cons, List.not_mem_nil, or_false, gz]); omega) | rfl)) only [↓gsd, gs, ev, Nat.reduceAdd, Nat.reduceEqDiff, oneC, Value.cells, Option.isNone, gt, ↓hk25, e0, e1, e2, e7, e8, hh1, hvo, d1, d2, i0, i1, Int.toNat_natCast, hb1, hd1, hw1, d3]
        generalize hW : World.alloc w1 _ = w2
        have hf2 : Fr [] w1 w2 := by rw [← hW]; (repeat (first | exact Fr.refl _ _ | assumption | with_reducible apply Fr.alloc | with_reducible apply Fr.drew | with_reducible refine Fr.setB ?_ _ _ (.inr (by first | omega | (simp only [gz]; omega))) | with_reducible refine Fr.setB ?_ _ _ (.inl (by first | assumption | simp)) | with_reducible refine Fr.trans' ?_ (by assumption)))
        have hsl : Sl 2 w2 (.slice (some ⟨w1.heap.size, 0, none⟩) 1 1) 1 (encRc r) := by
          rw [← hW]; exact ⟨rfl, .inr ⟨w1.heap.size, 0, 1, (encRc r).toArray, 47, (0, 0), rfl, get_alloc_new _ _, rfl⟩⟩
        clear hW
        have cw2 := cur w2
        have hz2 := hf2.size
        have hrc : RcIs w2 (· ∈ Rd) r ((i : Int) + 1, ks) := ⟨q1, (q2.frN hf).frN hf2, q3⟩
        obtain ⟨v4, w4, hr4, hrs4, hf4⟩ := RcsAt.app (hr.frN hf2) hrc (by rw [hol]; omega) hsl (fun b hb => by omega)
        have cw4 := cur w4
        have hF4 : Fr [] w w4 := fresh_app hr.blk hf4 (hf.trans' hf2)
        rw [hvo] at hr4
        simp (maxSteps := 4000000) (disch := (first | assumption | exact List.not_mem_nil | exact Fr.refl _ _ | ((repeat (first | assumption | apply cur_alloc | apply cur_setB | apply cur_drew | apply cur_drewN)); done) | omega | (simp only [gz, Value.cells, oneC]; first | done | omega) | ((simp only [List.mem_cons, List.not_mem_nil, or_false, gz]); omega) | rfl)) only [↓gsd, gs, ev, Nat.reduceAdd, Nat.reduceEqDiff, oneC, Value.cells, Option.isNone, gt, ↓hk25, e0, e1, e2, e7, e8, hr4]
        refine hk _ _ ⟨i + 1, v4, by omega, ?_⟩ ?_
        · simp (maxSteps := 4000000) (disch := (first | assumption | exact List.not_mem_nil | exact Fr.refl _ _ | ((repeat (first | assumption | apply cur_alloc | apply cur_setB | apply cur_drew | apply cur_drewN)); done) | omega | (simp only [gz, Value.cells, oneC]; first | done | omega) | ((simp only [List.mem_cons, List.not_mem_nil, or_false, gz]); omega) | rfl)) only [↓gsd, gs, ev, Nat.reduceAdd, Nat.reduceEqDiff, oneC, Value.cells, Option.isNone, e0, e1, e2, e7, e8, Int.natCast_add, Int.natCast_one]
          refine ⟨?_, hF4⟩
          have e1' : min m.toNat (i + 1 - d) = min m.toNat (i - d) + 1 := by omega
          have e2' : d + min m.toNat (i - d) = i := by omega
          rw [e1', List.take_add_one, List.getElem?_drop, e2', hxi]
          exact hrs4
        · simp (maxSteps := 4000000) (disch := (first | assumption | exact List.not_mem_nil | exact Fr.refl _ _ | ((repeat (first | assumption | apply cur_alloc | apply cur_setB | apply cur_drew | apply cur_drewN)); done) | omega | (simp only [gz, Value.cells, oneC]; first | done | omega) | ((simp only [List.mem_cons, List.not_mem_nil, or_false, gz]); omega) | rfl)) only [↓gsd, gs, ev, Nat.reduceAdd, Nat.reduceEqDiff, oneC, Value.cells, Option.isNone, e8, numOf, Int.toNat_natCast, i3]; omega
      · have d3 : decide (n ≤ r.n) = false := decide_eq_false (by rw [q1]; exact c3)
        simp (maxSteps := 4000000) (disch := (first | assumption | exact List.not_mem_nil | exact Fr.refl _ _ | ((repeat (first | assumption | apply cur_alloc | apply cur_setB | apply cur_drew | apply cur_drewN)); done) | omega | (simp only [gz, Value.cells, oneC]; first | done | omega) | ((simp only [List.mem_cons, List.not_mem_nil, or_false, gz]); omega) | rfl)) only [↓gsd, gs, ev, Nat.reduceAdd, Nat.reduceEqDiff, oneC, Value.cells, Option.isNone, gt, ↓hk25, e0, e1, e2, e7, e8, hh1, hvo, d1, d2, i0, i1, Int.toNat_natCast, hb1, hd1, hw1, d3]
        refine hk _ _ ⟨i + 1, vo, by omega, ?_⟩ ?_
        · simp (maxSteps := 4000000) (disch := (first | assumption | exact List.not_mem_nil | exact Fr.refl _ _ | ((repeat (first | assumption | apply cur_alloc | apply cur_setB | apply cur_drew | apply cur_drewN)); done) | omega | (simp only [gz, Value.cells, oneC]; first | done | omega) | ((simp only [List.mem_cons, List.not_mem_nil, or_false, gz]); omega) | rfl)) only [↓gsd, gs, ev, Nat.reduceAdd, Nat.reduceEqDiff, oneC, Value.cells, Option.isNone, e0, e1, e2, e7, e8, hvo, Int.natCast_add, Int.natCast_one]
          have : min m.toNat (i + 1 - d) = min m.toNat (i - d) := by omega
          rw [this, ← hvo]
          exact ⟨hr, hf⟩
        · simp (maxSteps := 4000000) (disch := (first | assumption | exact List.not_mem_nil | exact Fr.refl _ _ | ((repeat (first | assumption | apply cur_alloc | apply cur_setB | apply cur_drew | apply cur_drewN)); done) | omega | (simp only [gz, Value.cells, oneC]; first | done | omega) | ((simp only [List.mem_cons, List.not_mem_nil, or_false, gz]); omega) | rfl)) only [↓gsd, gs, ev, Nat.reduceAdd, Nat.reduceEqDiff, oneC, Value.cells, Option.isNone, e8, numOf, Int.toNat_natCast, i3]; omega
    · have d2 : decide (((min m.toNat (i - d) : Nat) : Int) < m) = false := decide_eq_false c2
      simp (maxSteps := 4000000) (disch := (first | assumption | exact List.not_mem_nil | exact Fr.refl _ _ | ((repeat (first | assumption | apply cur_alloc | apply cur_setB | apply cur_drew | apply cur_drewN)); done) | omega | (simp only [gz, Value.cells, oneC]; first | done | omega) | ((simp only [List.mem_cons, List.not_mem_nil, or_false, gz]); omega) | rfl)) only [↓gsd, gs, ev, Nat.reduceAdd, Nat.reduceEqDiff, oneC, Value.cells, Option.isNone, gt, ↓hk25, e0, e1, e2, e7, e8, hh1, hvo, d1, d2]
      rw [← hvo]
      refine hK _ _ ?_ hf
      have : min m.toNat (i - d) = m.toNat := by omega
      rw [this] at hr
      unfold fromL
      rw [← hd]; exact hr
  · have d1 : decide ((i : Int) < (rs.length : Int)) = false := decide_eq_false (by omega)
    simp (maxSteps := 4000000) (disch := (first | assumption | exact List.not_mem_nil | exact Fr.refl _ _ | ((repeat (first | assumption | apply cur_alloc | apply cur_setB | apply cur_drew | apply cur_drewN)); done) | omega | (simp only [gz, Value.cells, oneC]; first | done | omega) | ((simp only [List.mem_cons, List.not_mem_nil, or_false, gz]); omega) | rfl)) only [↓gsd, gs, ev, Nat.reduceAdd, Nat.reduceEqDiff, oneC, Value.cells, Option.isNone, gt, ↓hk25, e0, e1, e2, e7, e8, hh1, hvo, d1]
    rw [← hvo]
    refine hK _ _ ?_ hf
    have hq : ((recsL L).drop d).take (min m.toNat (i - d)) = fromL L n m := by
      unfold fromL
      rw [← hd]
      have hdl : ((recsL L).drop d).length = i - d := by rw [List.length_drop, recsL_len]; omega
      by_cases c : m.toNat ≤ i - d
      · rw [Nat.min_eq_left c]
      · rw [Nat.min_eq_right (by omega), List.take_of_length_le (by omega), List.take_of_length_le (by omega)]
    rw [← hq]; exact hr
theorem any_mem2 (ks : Ks) (s : ByteArray) : (ks.any fun k => decide (k = s)) = true ↔ s ∈ ks := by
  rw [List.any_eq_true]
  constructor
  · rintro ⟨x, hx, e⟩
    simp at e; subst e; exact hx
  · intro h; exact ⟨s, h, by simp⟩
set_option maxHeartbeats 8000000 in
theorem rfirst_log {w : World} {rb : Nat} {Wr Rd : List Nat} {L : List Ks} {s : ByteArray} {a : Int} {K : Value → World → Prop} (h : RLogAt w rb Wr Rd L) (hL : L.length + 1 ≤ 1999999999999) (h8 : ∀ ks ∈ L, ks.length ≤ 8)
    (hK : ∀ r w', FirstP L s a r → Fr [] w w' → K (firstV r) w') : CallsN Try.prog 26 [.pointer (some ⟨rb, 0, none⟩), .string s, .int .i64 a] w K := by
  have cw := cur w
  obtain ⟨⟨vl, hh, hrs⟩, g1, g2⟩ := h
  obtain ⟨⟨rs, hown, hrl, hat⟩, _⟩ := hrs
  rw [recsL_len] at hrl
  obtain ⟨la, lc, hv⟩ := hown.sl.form
  have hlt := lt_of_get _ _ hh
  have hh' := hh
  rw [hv] at hh'
  refine call26 ?_
  simp (maxSteps := 4000000) (disch := (first | assumption | exact List.not_mem_nil | exact Fr.refl _ _ | ((repeat (first | assumption | apply cur_alloc | apply cur_setB | apply cur_drew | apply cur_drewN)); done) | omega | (simp only [gz, Value.cells, oneC]; first | done | omega) | ((simp only [List.mem_cons, List.not_mem_nil, or_false, gz]); omega) | rfl)) only [↓gsd, gs, ev, Nat.reduceAdd, Nat.reduceEqDiff, oneC, Value.cells, Option.isNone, gt, ↓hk26]
  refine loop_intro (fun e w' => ∃ (i : Nat), i ≤ rs.length ∧ e 0 = .pointer (some ⟨rb, 0, none⟩) ∧ e 1 = .string s ∧ e 2 = .int .i64 a ∧ e 8 = .int .i64 i ∧ (∀ m, a < m → m ≤ (i : Int) → ¬ hasAt L s m) ∧ Fr [] w w') (fun e _ => rs.length - (numOf (e 8)).toNat) ?_ ?_
  · refine ⟨0, Nat.zero_le _, ?_⟩
    simp (maxSteps := 4000000) (disch := (first | assumption | exact List.not_mem_nil | exact Fr.refl _ _ | ((repeat (first | assumption | apply cur_alloc | apply cur_setB | apply cur_drew | apply cur_drewN)); done) | omega | (simp only [gz, Value.cells, oneC]; first | done | omega) | ((simp only [List.mem_cons, List.not_mem_nil, or_false, gz]); omega) | rfl)) only [↓gsd, gs, ev, Nat.reduceAdd, Nat.reduceEqDiff, oneC, Value.cells, Option.isNone, Int.natCast_zero]
    exact ⟨fun m _ hm hh => by have := hh.1; omega, Fr.refl _ _⟩
  rintro e w1 k ⟨i, hi, e0, e1, e2, e8, hno, hf⟩ hk
  have cw1 := cur w1
  have hz1 := hf.size
  have hh1 := hf.getN hh'
  by_cases hil : i < rs.length
  · have d1 : decide ((i : Int) < (rs.length : Int)) = true := decide_eq_true (by omega)
    have i0 : (0 : Int) ≤ (i : Int) := by omega
    have i1 : (i : Int) < (rs.length : Int) := by omega
    have i3 : ((i : Int) + 1).toNat = i + 1 := by omega
    obtain ⟨r, hri⟩ : ∃ r, rs[i]? = some r := ⟨rs[i], List.getElem?_eq_getElem hil⟩
    obtain ⟨ks, hks⟩ : ∃ ks, L[i]? = some ks := ⟨L[i]'(by omega), List.getElem?_eq_getElem (by omega)⟩
    have hxi : (recsL L)[i]? = some ((i : Int) + 1, ks) := by rw [recsL_get, hks]; rfl
    obtain ⟨q1, q2, q3⟩ := hat i r _ hri hxi
    have hk8 := h8 ks (List.mem_of_getElem? hks)
    obtain ⟨b1, o1, p1, ob1, hv1, hb1, hbl1, hw1, hc1⟩ := (show SlOf 2 encRc w1 vl rs from hown.sl.frN hf).read encRc_len i r hri
    have hd1 := fun orig K => hc1 0 (.int .i64 r.n) orig K rfl
    simp only [Nat.add_zero] at hd1
    rw [hv1] at hv
    simp only [Value.slice.injEq] at hv
    obtain ⟨rfl, _, rfl⟩ := hv
    simp only [encRc] at hw1
    have hat1 : hasAt L s ((i : Int) + 1) ↔ s ∈ ks := by
      unfold hasAt
      have : ((i : Int) + 1 - 1).toNat = i := by omega
      rw [this, hks]
      exact ⟨fun ⟨_, kk, e, h⟩ => by cases e; exact h, fun h => ⟨by omega, ks, rfl, h⟩⟩
    have hnext : ¬ (a < (i : Int) + 1 ∧ s ∈ ks) → ∀ m, a < m → m ≤ ((i + 1 : Nat) : Int) → ¬ hasAt L s m := fun hn m h1 h2 hh => by
      by_cases hm : m ≤ (i : Int)
      · exact hno m h1 hm hh
      · have : m = (i : Int) + 1 := by omega
        subst this
        exact hn ⟨h1, hat1.1 hh⟩
    by_cases c3 : a < (i : Int) + 1
    · have d3 : decide (a < r.n) = true := decide_eq_true (by rw [q1]; exact c3)
      simp (maxSteps := 4000000) (disch := (first | assumption | exact List.not_mem_nil | exact Fr.refl _ _ | ((repeat (first | assumption | apply cur_alloc | apply cur_setB | apply cur_drew | apply cur_drewN)); done) | omega | (simp only [gz, Value.cells, oneC]; first | done | omega) | ((simp only [List.mem_cons, List.not_mem_nil, or_false, gz]); omega) | rfl)) only [↓gsd, gs, ev, Nat.reduceAdd, Nat.reduceEqDiff, oneC, Value.cells, Option.isNone, gt, ↓hk26, e0, e1, e2, e8, hh1, d1, i0, i1, Int.toNat_natCast, hb1, hd1, hw1, d3]
      refine has_spec (r := r) (ks := ks) (show SlOf 1 encS w1 r.kv ks from q2.sl.frN hf) (by omega) fun w2 hf2 => ?_
      have cw2 := cur w2
      have hz2 := hf2.size
      have hb2 := hf2.getN hb1
      have hh2 := hf2.getN hh1
      have hF := hf.trans' hf2
      by_cases hs : s ∈ ks
      · have da := (any_mem2 ks s).2 hs
        simp (maxSteps := 4000000) (disch := (first | assumption | exact List.not_mem_nil | exact Fr.refl _ _ | ((repeat (first | assumption | apply cur_alloc | apply cur_setB | apply cur_drew | apply cur_drewN)); done) | omega | (simp only [gz, Value.cells, oneC]; first | done | omega) | ((simp only [List.mem_cons, List.not_mem_nil, or_false, gz]); omega) | rfl)) only [↓gsd, gs, ev, Nat.reduceAdd, Nat.reduceEqDiff, oneC, Value.cells, Option.isNone, gt, ↓hk26, e0, e1, e2, e8, hh2, i0, i1, Int.toNat_natCast, hb2, hd1, da]
        rw [q1]
        exact hK (some ((i : Int) + 1)) _ ⟨c3, hat1.2 hs, fun m h1 h2 hh => hno m h1 (by omega) hh⟩ hF
      · have da : (ks.any fun k => decide (k = s)) = false := by
          cases hq : ks.any fun k => decide (k = s) with
          | false => rfl
          | true => exact absurd ((any_mem2 ks s).1 hq) hs
        simp (maxSteps := 4000000) (disch := (first | assumption | exact List.not_mem_nil | exact Fr.refl _ _ | ((repeat (first | assumption | apply cur_alloc | apply cur_setB | apply cur_drew | apply cur_drewN)); done) | omega | (simp only [gz, Value.cells, oneC]; first | done | omega) | ((simp only [List.mem_cons, List.not_mem_nil, or_false, gz]); omega) | rfl)) only [↓gsd, gs, ev, Nat.reduceAdd, Nat.reduceEqDiff, oneC, Value.cells, Option.isNone, gt, ↓hk26, e0, e1, e2, e8, hh2, i0, i1, Int.toNat_natCast, hb2, hd1, da]
        refine hk _ _ ⟨i + 1, by omega, ?_⟩ ?_
        · simp (maxSteps := 4000000) (disch := (first | assumption | exact List.not_mem_nil | exact Fr.refl _ _ | ((repeat (first | assumption | apply cur_alloc | apply cur_setB | apply cur_drew | apply cur_drewN)); done) | omega | (simp only [gz, Value.cells, oneC]; first | done | omega) | ((simp only [List.mem_cons, List.not_mem_nil, or_false, gz]); omega) | rfl)) only [↓gsd, gs, ev, Nat.reduceAdd, Nat.reduceEqDiff, oneC, Value.cells, Option.isNone, e0, e1, e2, e8, Int.natCast_add, Int.natCast_one]
          exact ⟨hnext fun h => hs h.2, hF⟩
        · simp (maxSteps := 4000000) (disch := (first | assumption | exact List.not_mem_nil | exact Fr.refl _ _ | ((repeat (first | assumption | apply cur_alloc | apply cur_setB | apply cur_drew | apply cur_drewN)); done) | omega | (simp only [gz, Value.cells, oneC]; first | done | omega) | ((simp only [List.mem_cons, List.not_mem_nil, or_false, gz]); omega) | rfl)) only [↓gsd, gs, ev, Nat.reduceAdd, Nat.reduceEqDiff, oneC, Value.cells, Option.isNone, e8, numOf, Int.toNat_natCast, i3]; omega
    · have d3 : decide (a < r.n) = false := decide_eq_false (by rw [q1]; exact c3)
      simp (maxSteps := 4000000) (disch := (first | assumption | exact List.not_mem_nil | exact Fr.refl _ _ | ((repeat (first | assumption | apply cur_alloc | apply cur_setB | apply cur_drew | apply cur_drewN)); done) | omega | (simp only [gz, Value.cells, oneC]; first | done | omega) | ((simp only [List.mem_cons, List.not_mem_nil, or_false, gz]); omega) | rfl)) only [↓gsd, gs, ev, Nat.reduceAdd, Nat.reduceEqDiff, oneC, Value.cells, Option.isNone, gt, ↓hk26, e0, e1, e2, e8, hh1, d1, i0, i1, Int.toNat_natCast, hb1, hd1, hw1, d3]
      refine hk _ _ ⟨i + 1, by omega, ?_⟩ ?_
      · simp (maxSteps := 4000000) (disch := (first | assumption | exact List.not_mem_nil | exact Fr.refl _ _ | ((repeat (first | assumption | apply cur_alloc | apply cur_setB | apply cur_drew | apply cur_drewN)); done) | omega | (simp only [gz, Value.cells, oneC]; first | done | omega) | ((simp only [List.mem_cons, List.not_mem_nil, or_false, gz]); omega) | rfl)) only [↓gsd, gs, ev, Nat.reduceAdd, Nat.reduceEqDiff, oneC, Value.cells, Option.isNone, e0, e1, e2, e8, Int.natCast_add, Int.natCast_one]
        exact ⟨hnext fun h => c3 h.1, hf⟩
      · simp (maxSteps := 4000000) (disch := (first | assumption | exact List.not_mem_nil | exact Fr.refl _ _ | ((repeat (first | assumption | apply cur_alloc | apply cur_setB | apply cur_drew | apply cur_drewN)); done) | omega | (simp only [gz, Value.cells, oneC]; first | done | omega) | ((simp only [List.mem_cons, List.not_mem_nil, or_false, gz]); omega) | rfl)) only [↓gsd, gs, ev, Nat.reduceAdd, Nat.reduceEqDiff, oneC, Value.cells, Option.isNone, e8, numOf, Int.toNat_natCast, i3]; omega
  · have d1 : decide ((i : Int) < (rs.length : Int)) = false := decide_eq_false (by omega)
    simp (maxSteps := 4000000) (disch := (first | assumption | exact List.not_mem_nil | exact Fr.refl _ _ | ((repeat (first | assumption | apply cur_alloc | apply cur_setB | apply cur_drew | apply cur_drewN)); done) | omega | (simp only [gz, Value.cells, oneC]; first | done | omega) | ((simp only [List.mem_cons, List.not_mem_nil, or_false, gz]); omega) | rfl)) only [↓gsd, gs, ev, Nat.reduceAdd, Nat.reduceEqDiff, oneC, Value.cells, Option.isNone, gt, ↓hk26, e0, e1, e2, e8, hh1, d1]
    refine hK none _ (fun m h1 hh => ?_) hf
    obtain ⟨h0, kk, hkk, hs⟩ := hh
    have := (List.getElem?_eq_some_iff.1 hkk).1
    exact hno m h1 (by omega) ⟨h0, kk, hkk, hs⟩
end Go.Proofs.Ytenokheiindfkab
