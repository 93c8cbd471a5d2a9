/- step walked. -/
import Derived.Test.YtenokheiindfkabE3
import Derived.Test.YtenokheiindfkabR0
set_option linter.unusedVariables false
set_option linter.unusedSimpArgs false
set_option maxRecDepth 10000
namespace Go.Proofs.Ytenokheiindfkab
open Go.VW
/-- The log and the reference's, side by side. -/
structure Both (w0 w : World) (lb rb : Nat) (L : List Ks) : Prop where
  ex : ∃ W1 R1 W2 R2, LogAt w lb W1 R1 L ∧ RLogAt w rb W2 R2 L ∧ (∀ x ∈ W1, w0.heap.size ≤ x ∧ x ∉ W2 ∧ x ∉ R2) ∧ (∀ x ∈ W2, w0.heap.size ≤ x ∧ x ∉ R1)
  fr : Fr [] w0 w
theorem Both.frN {w0 w w' : World} {lb rb : Nat} {L : List Ks} (h : Both w0 w lb rb L) (hf : Fr [] w w') : Both w0 w' lb rb L := by
  obtain ⟨⟨W1, R1, W2, R2, h1, h2, h3, h4⟩, h5⟩ := h
  exact ⟨⟨W1, R1, W2, R2, h1.frN hf, h2.frN hf, h3, h4⟩, h5.trans' hf⟩
def StepG (K : Value → World → Prop) (e : Env) (w : World) : Prop := W3 Try.prog 135 V12 c12_6 (seqQ (fun e w => W3 Try.prog 135 V12 c12_2 (retQ Try.prog [.tmp 6] K) e w) (retQ Try.prog [.tmp 6] K)) e w
section
variable {w0 w : World} {lb rb ob kc : Nat} {L : List Ks} {ka : Option Addr} {kd n m q : Int} {s : ByteArray} {ks : Ks} {e : Env} {K : Value → World → Prop}
set_option maxHeartbeats 16000000 in
theorem step0 {W1 R1 W2 R2 : List Nat} (h1 : LogAt w lb W1 R1 L) (h2 : RLogAt w rb W2 R2 L) (h3 : ∀ x ∈ W1, w0.heap.size ≤ x ∧ x ∉ W2 ∧ x ∉ R2) (h4 : ∀ x ∈ W2, w0.heap.size ≤ x ∧ x ∉ R1) (hfr : Fr [] w0 w) (g5 : w.heap[ob]? = some (.cells ([.int .u8 kd, .slice ka ks.length kc, .string s, .int .i64 n, .int .i64 m] : List Value).toArray 41 (0, 0))) (hob : ob ∉ W1)
    (hsk : SlOf 1 encS w0 (.slice ka ks.length kc) ks) (hkl : ks.length ≤ 9223372036854775807) (hL : L.length ≤ 1048576) (e0 : e 0 = .pointer (some ⟨lb, 0, none⟩)) (e1 : e 1 = .pointer (some ⟨rb, 0, none⟩)) (e5 : e 5 = .pointer (some ⟨ob, 0, none⟩)) (e20 : e 20 = .int .u8 0)
    (hK : ∀ w' L', Both w0 w' lb rb L' → L'.length ≤ L.length + 1 → K (.bool true) w') : StepG K e w := by
  have cw := cur w
  have hlt5 := lt_of_get _ _ g5
  have hz0 := hfr.size
  unfold StepG
  simp (maxSteps := 4000000) (disch := (first | assumption | exact List.not_mem_nil | exact Fr.refl _ _ | ((repeat (first | assumption | apply cur_alloc | apply cur_setB | apply cur_drew | apply cur_drewN)); done) | omega | (simp only [gz, Value.cells, oneC]; first | done | omega) | ((simp only [List.mem_cons, List.not_mem_nil, or_false, gz]); omega) | rfl)) only [↓gsd, gs, ev, Nat.reduceAdd, Nat.reduceEqDiff, oneC, Value.cells, Option.isNone, gt, ↓hk12, e0, e1, e5, e20, g5]
  refine append_log h1 (hsk.frN hfr) hkl fun w2 W1' R1' h1' hf2 hW1 hR1 => ?_
  have cw2 := cur w2
  have hz2 := hf2.size
  have g5' := hf2.get g5 hob
  have hlt5' := lt_of_get _ _ g5'
  have hF2 : Fr [] w0 w2 := hfr.trans hf2 fun x hx => .inr (h3 x hx).1
  simp (maxSteps := 4000000) (disch := (first | assumption | exact List.not_mem_nil | exact Fr.refl _ _ | ((repeat (first | assumption | apply cur_alloc | apply cur_setB | apply cur_drew | apply cur_drewN)); done) | omega | (simp only [gz, Value.cells, oneC]; first | done | omega) | ((simp only [List.mem_cons, List.not_mem_nil, or_false, gz]); omega) | rfl)) only [↓gsd, gs, ev, Nat.reduceAdd, Nat.reduceEqDiff, oneC, Value.cells, Option.isNone, gt, ↓hk12, e0, e1, e5, e20, g5']
  refine rappend_log (h2.fr hf2 fun x hx => (h3 x hx).2) (hsk.frN hF2) hkl (by omega) fun w3 W2' R2' h2' hf3 hW2 hR2 => ?_
  have cw3 := cur w3
  have hz3 := hf3.size
  rw [rappL_eq (by omega)] at h2' ⊢
  have d1 : decide ((appL L ks).1.1 = (appL L ks).1.1) = true := decide_eq_true rfl
  have d2 : decide ((appL L ks).1.2 = (appL L ks).1.2) = true := decide_eq_true rfl
  simp (maxSteps := 4000000) (disch := (first | assumption | exact List.not_mem_nil | exact Fr.refl _ _ | ((repeat (first | assumption | apply cur_alloc | apply cur_setB | apply cur_drew | apply cur_drewN)); done) | omega | (simp only [gz, Value.cells, oneC]; first | done | omega) | ((simp only [List.mem_cons, List.not_mem_nil, or_false, gz]); omega) | rfl)) only [↓gsd, gs, ev, Nat.reduceAdd, Nat.reduceEqDiff, oneC, Value.cells, Option.isNone, gt, ↓hk12, e0, e1, e5, e20, d1, d2]
  have hlen : (appL L ks).2.length ≤ L.length + 1 := by
    rcases appL_cases L ks with ⟨_, q2, _⟩ | ⟨_, _, _, _, q5⟩
    · rw [q2]; omega
    · rw [q5]; simp
  have hl1 := h1.lt
  have hl2 := h2.lt
  refine hK _ _ ⟨⟨W1', R1', W2', R2', h1'.fr hf3 (fun x hx => ⟨fun hm => ?_, fun hm => ?_⟩), h2', fun x hx => ⟨?_, fun hm => ?_, fun hm => ?_⟩, fun x hx => ⟨?_, fun hm => ?_⟩⟩, hF2.trans hf3 fun x hx => .inr (h4 x hx).1⟩ hlen
  · rcases hW1 x hm with g | g
    · exact (h3 x g).2.1 hx
    · have := hl2 x (.inl hx); omega
  · rcases hR1 x hm with g | g
    · exact (h4 x hx).2 g
    · have := hl2 x (.inl hx); omega
  · rcases hW1 x hx with g | g
    · exact (h3 x g).1
    · omega
  · rcases hW2 x hm with g | g
    · rcases hW1 x hx with g' | g'
      · exact (h3 x g').2.1 g
      · have := hl2 x (.inl g); omega
    · rcases hW1 x hx with g' | g'
      · have := hl1 x (.inl g'); omega
      · have := h1'.lt x (.inl hx); omega
  · rcases hR2 x hm with g | g
    · rcases hW1 x hx with g' | g'
      · exact (h3 x g').2.2 g
      · have := hl2 x (.inr g); omega
    · have := h1'.lt x (.inl hx); omega
  · rcases hW2 x hx with g | g
    · exact (h4 x g).1
    · omega
  · rcases hR1 x hm with g | g
    · rcases hW2 x hx with g' | g'
      · exact (h4 x g').2 g
      · have := hl1 x (.inr g); omega
    · rcases hW2 x hx with g' | g'
      · have := hl2 x (.inl g'); omega
      · have := h1'.lt x (.inr hm); omega
set_option maxHeartbeats 16000000 in
theorem step3 (h : Both w0 w lb rb L) (g5 : w.heap[ob]? = some (.cells ([.int .u8 kd, .slice ka ks.length kc, .string s, .int .i64 n, .int .i64 m] : List Value).toArray 41 (0, 0)))
    (hL : L.length ≤ 1048576) (e0 : e 0 = .pointer (some ⟨lb, 0, none⟩)) (e1 : e 1 = .pointer (some ⟨rb, 0, none⟩)) (e5 : e 5 = .pointer (some ⟨ob, 0, none⟩)) (e20 : e 20 = .int .u8 q) (q0 : q ≠ 0) (q1 : q ≠ 1) (q2 : q ≠ 2)
    (hK : ∀ w' L', Both w0 w' lb rb L' → L'.length ≤ L.length + 1 → K (.bool true) w') : StepG K e w := by
  have cw := cur w
  have hlt5 := lt_of_get _ _ g5
  have hB := h
  obtain ⟨⟨W1, R1, W2, R2, h1, h2, h3, h4⟩, hfr⟩ := h
  have d0 : decide (q = 0) = false := decide_eq_false q0
  have d1 : decide (q = 1) = false := decide_eq_false q1
  have d2 : decide (q = 2) = false := decide_eq_false q2
  unfold StepG
  simp (maxSteps := 4000000) (disch := (first | assumption | exact List.not_mem_nil | exact Fr.refl _ _ | ((repeat (first | assumption | apply cur_alloc | apply cur_setB | apply cur_drew | apply cur_drewN)); done) | omega | (simp only [gz, Value.cells, oneC]; first | done | omega) | ((simp only [List.mem_cons, List.not_mem_nil, or_false, gz]); omega) | rfl)) only [↓gsd, gs, ev, Nat.reduceAdd, Nat.reduceEqDiff, oneC, Value.cells, Option.isNone, gt, ↓hk12, e0, e1, e5, e20, g5, d0, d1, d2]
  refine first_log h1 fun r w2 hr hf2 => ?_
  have cw2 := cur w2
  have hz2 := hf2.size
  have g5' := hf2.getN g5
  have hlt5' := lt_of_get _ _ g5'
  cases r with
  | none =>
    unfold firstV
    simp (maxSteps := 4000000) (disch := (first | assumption | exact List.not_mem_nil | exact Fr.refl _ _ | ((repeat (first | assumption | apply cur_alloc | apply cur_setB | apply cur_drew | apply cur_drewN)); done) | omega | (simp only [gz, Value.cells, oneC]; first | done | omega) | ((simp only [List.mem_cons, List.not_mem_nil, or_false, gz]); omega) | rfl)) only [↓gsd, gs, ev, Nat.reduceAdd, Nat.reduceEqDiff, oneC, Value.cells, Option.isNone, gt, ↓hk12, e0, e1, e5, e20, g5']
    refine rfirst_log (h2.frN hf2) (by omega) (fun ks hks => (chkK_ok (h1.ok ks hks)).2.1) fun r' w3 hr' hf3 => ?_
    have cw3 := cur w3
    rw [← FirstP.uniq hr hr']
    unfold firstV
    have db : (false == false) = true := rfl
    simp (maxSteps := 4000000) (disch := (first | assumption | exact List.not_mem_nil | exact Fr.refl _ _ | ((repeat (first | assumption | apply cur_alloc | apply cur_setB | apply cur_drew | apply cur_drewN)); done) | omega | (simp only [gz, Value.cells, oneC]; first | done | omega) | ((simp only [List.mem_cons, List.not_mem_nil, or_false, gz]); omega) | rfl)) only [↓gsd, gs, ev, Nat.reduceAdd, Nat.reduceEqDiff, oneC, Value.cells, Option.isNone, gt, ↓hk12, e0, e1, e5, e20, db]
    exact hK _ _ ((hB.frN hf2).frN hf3) (by omega)
  | some z =>
    unfold firstV
    simp (maxSteps := 4000000) (disch := (first | assumption | exact List.not_mem_nil | exact Fr.refl _ _ | ((repeat (first | assumption | apply cur_alloc | apply cur_setB | apply cur_drew | apply cur_drewN)); done) | omega | (simp only [gz, Value.cells, oneC]; first | done | omega) | ((simp only [List.mem_cons, List.not_mem_nil, or_false, gz]); omega) | rfl)) only [↓gsd, gs, ev, Nat.reduceAdd, Nat.reduceEqDiff, oneC, Value.cells, Option.isNone, gt, ↓hk12, e0, e1, e5, e20, g5']
    refine rfirst_log (h2.frN hf2) (by omega) (fun ks hks => (chkK_ok (h1.ok ks hks)).2.1) fun r' w3 hr' hf3 => ?_
    have cw3 := cur w3
    rw [← FirstP.uniq hr hr']
    unfold firstV
    have db : (true == true) = true := rfl
    have dz : decide (z = z) = true := decide_eq_true rfl
    simp (maxSteps := 4000000) (disch := (first | assumption | exact List.not_mem_nil | exact Fr.refl _ _ | ((repeat (first | assumption | apply cur_alloc | apply cur_setB | apply cur_drew | apply cur_drewN)); done) | omega | (simp only [gz, Value.cells, oneC]; first | done | omega) | ((simp only [List.mem_cons, List.not_mem_nil, or_false, gz]); omega) | rfl)) only [↓gsd, gs, ev, Nat.reduceAdd, Nat.reduceEqDiff, oneC, Value.cells, Option.isNone, gt, ↓hk12, e0, e1, e5, e20, db, dz]
    exact hK _ _ ((hB.frN hf2).frN hf3) (by omega)
set_option maxHeartbeats 16000000 in
theorem step2 (h : Both w0 w lb rb L) (g5 : w.heap[ob]? = some (.cells ([.int .u8 kd, .slice ka ks.length kc, .string s, .int .i64 n, .int .i64 m] : List Value).toArray 41 (0, 0)))
    (hL : L.length ≤ 1048576) (e0 : e 0 = .pointer (some ⟨lb, 0, none⟩)) (e1 : e 1 = .pointer (some ⟨rb, 0, none⟩)) (e5 : e 5 = .pointer (some ⟨ob, 0, none⟩)) (e20 : e 20 = .int .u8 2)
    (hK : ∀ w' L', Both w0 w' lb rb L' → L'.length ≤ L.length + 1 → K (.bool true) w') : StepG K e w := by
  have cw := cur w
  have hlt5 := lt_of_get _ _ g5
  have hB := h
  obtain ⟨⟨W1, R1, W2, R2, h1, h2, h3, h4⟩, hfr⟩ := h
  have d0 : decide ((2 : Int) = 0) = false := rfl
  have d1 : decide ((2 : Int) = 1) = false := rfl
  unfold StepG
  simp (maxSteps := 4000000) (disch := (first | assumption | exact List.not_mem_nil | exact Fr.refl _ _ | ((repeat (first | assumption | apply cur_alloc | apply cur_setB | apply cur_drew | apply cur_drewN)); done) | omega | (simp only [gz, Value.cells, oneC]; first | done | omega) | ((simp only [List.mem_cons, List.not_mem_nil, or_false, gz]); omega) | rfl)) only [↓gsd, gs, ev, Nat.reduceAdd, Nat.reduceEqDiff, oneC, Value.cells, Option.isNone, gt, frT_self, frT_drew, frT_drew0, frT_alloc, ↓hk12, e0, e1, e5, e20, g5, d0, d1]
  refine from_log (h1.frN (Fr.refl _ _).drew) fun v w2 hr hf2 => ?_
  have cw2 := cur w2
  have hz2 := hf2.size
  have hF2 : Fr [] w w2 := (Fr.refl _ _).drew.trans' hf2
  simp (maxSteps := 4000000) (disch := (first | assumption | exact List.not_mem_nil | exact Fr.refl _ _ | ((repeat (first | assumption | apply cur_alloc | apply cur_setB | apply cur_drew | apply cur_drewN)); done) | omega | (simp only [gz, Value.cells, oneC]; first | done | omega) | ((simp only [List.mem_cons, List.not_mem_nil, or_false, gz]); omega) | rfl)) only [↓gsd, gs, ev, Nat.reduceAdd, Nat.reduceEqDiff, oneC, Value.cells, Option.isNone, gt, frT_self, frT_drew, frT_drew0, frT_alloc, eq_true hF2, ↓hk12, e0, e1, e5, e20, g5]
  refine rfrom_log (h2.frN hF2) (by omega) fun v' w3 hr' hf3 => ?_
  have cw3 := cur w3
  have hz3 := hf3.size
  try simp (maxSteps := 4000000) (disch := (first | assumption | exact List.not_mem_nil | exact Fr.refl _ _ | ((repeat (first | assumption | apply cur_alloc | apply cur_setB | apply cur_drew | apply cur_drewN)); done) | omega | (simp only [gz, Value.cells, oneC]; first | done | omega) | ((simp only [List.mem_cons, List.not_mem_nil, or_false, gz]); omega) | rfl)) only [↓gsd, gs, ev, Nat.reduceAdd, Nat.reduceEqDiff, oneC, Value.cells, Option.isNone, gt, frT_self, frT_drew, frT_drew0, frT_alloc, eq_true hF2, eq_true hf3, ↓hk12, e0, e1, e5, e20]
  have hlf : (fromL L n m).length ≤ L.length := by
    unfold fromL
    rw [List.length_take, List.length_drop, recsL_len]; omega
  refine sameAll_true (hr.frN hf3) hr' (by omega) (fun x hx => ?_) fun w4 hf4 => ?_
  · unfold fromL at hx
    have hm := List.mem_of_mem_drop (List.mem_of_mem_take hx)
    obtain ⟨i, hi⟩ := List.getElem?_of_mem hm
    rw [recsL_get] at hi
    cases hk : L[i]? with
    | none => rw [hk] at hi; cases hi
    | some kk =>
      rw [hk] at hi; cases hi
      exact (chkK_ok (h1.ok kk (List.mem_of_getElem? hk))).2.1
  · have cw4 := cur w4
    try simp (maxSteps := 4000000) (disch := (first | assumption | exact List.not_mem_nil | exact Fr.refl _ _ | ((repeat (first | assumption | apply cur_alloc | apply cur_setB | apply cur_drew | apply cur_drewN)); done) | omega | (simp only [gz, Value.cells, oneC]; first | done | omega) | ((simp only [List.mem_cons, List.not_mem_nil, or_false, gz]); omega) | rfl)) only [↓gsd, gs, ev, Nat.reduceAdd, Nat.reduceEqDiff, oneC, Value.cells, Option.isNone, gt, frT_self, frT_drew, frT_drew0, frT_alloc, eq_true hf4, ↓hk12, e0, e1, e5, e20]
    exact hK _ _ (((hB.frN hF2).frN hf3).frN hf4) (by omega)
set_option maxHeartbeats 16000000 in
theorem step1 (h : Both w0 w lb rb L) (g5 : w.heap[ob]? = some (.cells ([.int .u8 kd, .slice ka ks.length kc, .string s, .int .i64 n, .int .i64 m] : List Value).toArray 41 (0, 0)))
    (hL : L.length ≤ 1048576) (e0 : e 0 = .pointer (some ⟨lb, 0, none⟩)) (e1 : e 1 = .pointer (some ⟨rb, 0, none⟩)) (e5 : e 5 = .pointer (some ⟨ob, 0, none⟩)) (e20 : e 20 = .int .u8 1)
    (hK : ∀ w' L', Both w0 w' lb rb L' → L'.length ≤ L.length + 1 → K (.bool true) w') : StepG K e w := by
  have cw := cur w
  have hlt5 := lt_of_get _ _ g5
  have hB := h
  obtain ⟨⟨W1, R1, W2, R2, h1, h2, h3, h4⟩, hfr⟩ := h
  obtain ⟨⟨vl, hh, hrs⟩, g1, g2⟩ := h2
  obtain ⟨⟨rs, hown, hrl, hat⟩, _⟩ := hrs
  rw [recsL_len] at hrl
  obtain ⟨la, lc, hv⟩ := hown.sl.form
  have hlt := lt_of_get _ _ hh
  have hh' := hh
  rw [hv] at hh'
  have d0 : decide ((1 : Int) = 0) = false := rfl
  have hgl : ∀ kk, getL L n = some kk → ∃ i : Nat, n = (i : Int) + 1 ∧ L[i]? = some kk := fun kk hg => by
    unfold getL at hg
    split at hg
    · cases hg
    · exact ⟨(n - 1).toNat, by omega, hg⟩
  -- what stands behind Get
  have hLoop : ∀ (r : Rc) (er : Int) (e : Env) (w3 : World) (xb : Nat), e 0 = .pointer (some ⟨lb, 0, none⟩) → e 1 = .pointer (some ⟨rb, 0, none⟩) → e 5 = .pointer (some ⟨ob, 0, none⟩) → e 11 = .pointer (some ⟨xb, 0, none⟩) → e 12 = .int .i64 er →
      w3.heap[xb]? = some (.cells (encRc r).toArray 47 (0, 0)) → Fr [] w w3 → ((er = 0 ∧ ∃ kk, getL L n = some kk ∧ r.n = n ∧ SlOf 1 encS w3 r.kv kk) ∨ (er = 3 ∧ getL L n = none ∧ r = ⟨0, none, 0, 0⟩)) →
      W3 Try.prog 135 V12 c12_15 (blockQ 0 (seqQ (fun e w => W3 Try.prog 135 V12 c12_2 (retQ Try.prog [.tmp 6] K) e w) (retQ Try.prog [.tmp 6] K))) e w3 := by
    intro r er e w3 xb e0 e1 e5 e11 e12 hx hf3 hcase
    have cw3 := cur w3
    simp (maxSteps := 4000000) (disch := (first | assumption | exact List.not_mem_nil | exact Fr.refl _ _ | ((repeat (first | assumption | apply cur_alloc | apply cur_setB | apply cur_drew | apply cur_drewN)); done) | omega | (simp only [gz, Value.cells, oneC]; first | done | omega) | ((simp only [List.mem_cons, List.not_mem_nil, or_false, gz]); omega) | rfl)) only [↓gsd, gs, ev, Nat.reduceAdd, Nat.reduceEqDiff, oneC, Value.cells, Option.isNone, gt, ↓hk12, e0, e1, e5, e11, e12]
    refine loop_intro (fun e w' => ∃ (i : Nat), i ≤ rs.length ∧ e 1 = .pointer (some ⟨rb, 0, none⟩) ∧ e 5 = .pointer (some ⟨ob, 0, none⟩) ∧ e 11 = .pointer (some ⟨xb, 0, none⟩) ∧ e 12 = .int .i64 er ∧ e 13 = .int .i64 i ∧ (∀ j : Nat, j < i → (j : Int) + 1 ≠ n) ∧ Fr [] w3 w')
      (fun e _ => rs.length - (numOf (e 13)).toNat) ?_ ?_
    · refine ⟨0, Nat.zero_le _, ?_⟩
      simp (maxSteps := 4000000) (disch := (first | assumption | exact List.not_mem_nil | exact Fr.refl _ _ | ((repeat (first | assumption | apply cur_alloc | apply cur_setB | apply cur_drew | apply cur_drewN)); done) | omega | (simp only [gz, Value.cells, oneC]; first | done | omega) | ((simp only [List.mem_cons, List.not_mem_nil, or_false, gz]); omega) | rfl)) only [↓gsd, gs, ev, Nat.reduceAdd, Nat.reduceEqDiff, oneC, Value.cells, Option.isNone, e1, e5, e11, e12, Int.natCast_zero]
      exact ⟨fun j hj => absurd hj (by omega), Fr.refl _ _⟩
    rintro e w4 k ⟨i, hi, e1, e5, e11, e12, e13, hno, hf4⟩ hk
    have cw4 := cur w4
    have hF := hf3.trans' hf4
    have hz4 := hF.size
    have hh4 := hF.getN hh'
    have hlt4 := lt_of_get _ _ hh4
    have hx4 := hf4.getN hx
    have hltx := lt_of_get _ _ hx4
    have g54 := hF.getN g5
    have hltg := lt_of_get _ _ g54
    by_cases hil : i < rs.length
    · have d1 : decide ((i : Int) < (rs.length : Int)) = true := decide_eq_true (by omega)
      have i0 : (0 : Int) ≤ (i : Int) := by omega
      have i1 : (i : Int) < (rs.length : Int) := by omega
      have i3 : ((i : Int) + 1).toNat = i + 1 := by omega
      obtain ⟨r', hri⟩ : ∃ r, rs[i]? = some r := ⟨rs[i], List.getElem?_eq_getElem hil⟩
      obtain ⟨kk, hkk⟩ : ∃ ks, L[i]? = some ks := ⟨L[i]'(by omega), List.getElem?_eq_getElem (by omega)⟩
      have hxi : (recsL L)[i]? = some ((i : Int) + 1, kk) := by rw [recsL_get, hkk]; rfl
      obtain ⟨q1, q2, q3⟩ := hat i r' _ hri hxi
      have hk8 := (chkK_ok (h1.ok kk (List.mem_of_getElem? hkk))).2.1
      obtain ⟨b1, o1, p1, ob1, hv1, hb1, hbl1, hw1, hc1⟩ := (show SlOf 2 encRc w4 vl rs from hown.sl.frN hF).read encRc_len i r' hri
      have hd1 := fun orig K => hc1 0 (.int .i64 r'.n) orig K rfl
      simp only [Nat.add_zero] at hd1
      rw [hv1] at hv
      simp only [Value.slice.injEq] at hv
      obtain ⟨rfl, _, rfl⟩ := hv
      by_cases hn : (i : Int) + 1 = n
      · have dn : decide (r'.n = n) = true := decide_eq_true (by rw [q1]; exact hn)
        have hgk : getL L n = some kk := by rw [← hn]; exact getL_at hkk
        rcases hcase with ⟨rfl, kk', hg', hrn, hsl⟩ | ⟨_, hg', _⟩
        · rw [hgk] at hg'; cases hg'
          simp only [encRc] at hx4 hw1
          simp (maxSteps := 4000000) (disch := (first | assumption | exact List.not_mem_nil | exact Fr.refl _ _ | ((repeat (first | assumption | apply cur_alloc | apply cur_setB | apply cur_drew | apply cur_drewN)); done) | omega | (simp only [gz, Value.cells, oneC]; first | done | omega) | ((simp only [List.mem_cons, List.not_mem_nil, or_false, gz]); omega) | rfl)) only [↓gsd, gs, ev, Nat.reduceAdd, Nat.reduceEqDiff, oneC, Value.cells, Option.isNone, gt, frT_self, frT_drew, frT_drew0, frT_alloc, ↓hk12, e1, e5, e11, e12, e13, hh4, d1, i0, i1, Int.toNat_natCast, hb1, hd1, hw1, g54, dn, hx4]
          refine same_true (r := r) (r' := r') (ks := kk) (by rw [hrn, q1, hn]) ((hsl.frN hf4).frN (Fr.refl _ _).drew.drew) ((show SlOf 1 encS w4 r'.kv kk from q2.sl.frN hF).frN (Fr.refl _ _).drew.drew) (by omega) fun w5 hf5 => ?_
          have cw5 := cur w5
          have hF5 : Fr [] w4 w5 := (Fr.refl _ _).drew.drew.trans' hf5
          try simp (maxSteps := 4000000) (disch := (first | assumption | exact List.not_mem_nil | exact Fr.refl _ _ | ((repeat (first | assumption | apply cur_alloc | apply cur_setB | apply cur_drew | apply cur_drewN)); done) | omega | (simp only [gz, Value.cells, oneC]; first | done | omega) | ((simp only [List.mem_cons, List.not_mem_nil, or_false, gz]); omega) | rfl)) only [↓gsd, gs, ev, Nat.reduceAdd, Nat.reduceEqDiff, oneC, Value.cells, Option.isNone, gt, frT_self, frT_drew, frT_drew0, frT_alloc, eq_true hF5, ↓hk12, e1, e5, e11, e12, e13]
          exact hK _ _ ((hB.frN hF).frN hF5) (by omega)
        · rw [hgk] at hg'; cases hg'
      · have dn : decide (r'.n = n) = false := decide_eq_false (by rw [q1]; exact hn)
        simp (maxSteps := 4000000) (disch := (first | assumption | exact List.not_mem_nil | exact Fr.refl _ _ | ((repeat (first | assumption | apply cur_alloc | apply cur_setB | apply cur_drew | apply cur_drewN)); done) | omega | (simp only [gz, Value.cells, oneC]; first | done | omega) | ((simp only [List.mem_cons, List.not_mem_nil, or_false, gz]); omega) | rfl)) only [↓gsd, gs, ev, Nat.reduceAdd, Nat.reduceEqDiff, oneC, Value.cells, Option.isNone, gt, frT_self, frT_drew, frT_drew0, frT_alloc, ↓hk12, e1, e5, e11, e12, e13, hh4, d1, i0, i1, Int.toNat_natCast, hb1, hd1, hw1, g54, dn]
        refine hk _ _ ⟨i + 1, by omega, ?_⟩ ?_
        · simp (maxSteps := 4000000) (disch := (first | assumption | exact List.not_mem_nil | exact Fr.refl _ _ | ((repeat (first | assumption | apply cur_alloc | apply cur_setB | apply cur_drew | apply cur_drewN)); done) | omega | (simp only [gz, Value.cells, oneC]; first | done | omega) | ((simp only [List.mem_cons, List.not_mem_nil, or_false, gz]); omega) | rfl)) only [↓gsd, gs, ev, Nat.reduceAdd, Nat.reduceEqDiff, oneC, Value.cells, Option.isNone, e1, e5, e11, e12, e13, Int.natCast_add, Int.natCast_one]
          refine ⟨fun j hj => ?_, hf4.drew⟩
          by_cases hji : j = i
          · subst hji; exact hn
          · exact hno j (by omega)
        · simp (maxSteps := 4000000) (disch := (first | assumption | exact List.not_mem_nil | exact Fr.refl _ _ | ((repeat (first | assumption | apply cur_alloc | apply cur_setB | apply cur_drew | apply cur_drewN)); done) | omega | (simp only [gz, Value.cells, oneC]; first | done | omega) | ((simp only [List.mem_cons, List.not_mem_nil, or_false, gz]); omega) | rfl)) only [↓gsd, gs, ev, Nat.reduceAdd, Nat.reduceEqDiff, oneC, Value.cells, Option.isNone, e13, numOf, Int.toNat_natCast, i3]; omega
    · have d1 : decide ((i : Int) < (rs.length : Int)) = false := decide_eq_false (by omega)
      rcases hcase with ⟨rfl, kk', hg', hrn, hsl⟩ | ⟨rfl, hg', rfl⟩
      · obtain ⟨j, hj, hjk⟩ := hgl kk' hg'
        have := (List.getElem?_eq_some_iff.1 hjk).1
        exact absurd hj.symm (hno j (by omega))
      · simp only [encRc] at hx4
        simp (maxSteps := 4000000) (disch := (first | assumption | exact List.not_mem_nil | exact Fr.refl _ _ | ((repeat (first | assumption | apply cur_alloc | apply cur_setB | apply cur_drew | apply cur_drewN)); done) | omega | (simp only [gz, Value.cells, oneC]; first | done | omega) | ((simp only [List.mem_cons, List.not_mem_nil, or_false, gz]); omega) | rfl)) only [↓gsd, gs, ev, Nat.reduceAdd, Nat.reduceEqDiff, oneC, Value.cells, Option.isNone, gt, frT_self, frT_drew, frT_drew0, frT_alloc, ↓hk12, e1, e5, e11, e12, e13, hh4, d1, hx4]
        refine same_true (r := ⟨0, none, 0, 0⟩) (r' := ⟨0, none, 0, 0⟩) (ks := []) rfl Sl.nil Sl.nil (by simp) fun w5 hf5 => ?_
        have cw5 := cur w5
        try simp (maxSteps := 4000000) (disch := (first | assumption | exact List.not_mem_nil | exact Fr.refl _ _ | ((repeat (first | assumption | apply cur_alloc | apply cur_setB | apply cur_drew | apply cur_drewN)); done) | omega | (simp only [gz, Value.cells, oneC]; first | done | omega) | ((simp only [List.mem_cons, List.not_mem_nil, or_false, gz]); omega) | rfl)) only [↓gsd, gs, ev, Nat.reduceAdd, Nat.reduceEqDiff, oneC, Value.cells, Option.isNone, gt, frT_self, frT_drew, frT_drew0, frT_alloc, eq_true hf5, ↓hk12, e1, e5, e11, e12, e13]
        exact hK _ _ ((hB.frN hF).frN hf5) (by omega)
  unfold StepG
  simp (maxSteps := 4000000) (disch := (first | assumption | exact List.not_mem_nil | exact Fr.refl _ _ | ((repeat (first | assumption | apply cur_alloc | apply cur_setB | apply cur_drew | apply cur_drewN)); done) | omega | (simp only [gz, Value.cells, oneC]; first | done | omega) | ((simp only [List.mem_cons, List.not_mem_nil, or_false, gz]); omega) | rfl)) only [↓gsd, gs, ev, Nat.reduceAdd, Nat.reduceEqDiff, oneC, Value.cells, Option.isNone, gt, ↓hk12, e0, e1, e5, e20, g5, d0]
  refine get_log h1 (fun hg w2 hf2 => ?_) fun kk r w2 hg hf2 hrc => ?_
  · have cw2 := cur w2
    have hz2 := hf2.size
    simp (maxSteps := 4000000) (disch := (first | assumption | exact List.not_mem_nil | exact Fr.refl _ _ | ((repeat (first | assumption | apply cur_alloc | apply cur_setB | apply cur_drew | apply cur_drewN)); done) | omega | (simp only [gz, Value.cells, oneC]; first | done | omega) | ((simp only [List.mem_cons, List.not_mem_nil, or_false, gz]); omega) | rfl)) only [↓gsd, gs, ev, Nat.reduceAdd, Nat.reduceEqDiff, oneC, Value.cells, Option.isNone, gt, ↓o12_0_eq, ↓o12_16_eq, ↓o12_17_eq, ↓o12_18_eq, ↓c12_4_s, ↓c12_3_s, ↓c12_2_s, ↓o12_1_eq, ↓o12_2_eq, ↓o12_3_eq, ↓o12_4_eq, ↓o12_5_eq, ↓c12_11_s, ↓c12_10_s, ↓c12_9_s, ↓o12_6_eq, ↓o12_7_eq, ↓o12_13_eq, ↓c12_16_s, ↓o12_8_eq, ↓o12_10_eq, ↓c12_22_s, ↓o12_11_eq, ↓o12_12_eq, ↓c12_26_s, ↓c12_25_s, ↓c12_24_s, ↓c12_23_s, ↓c12_21_s, ↓o12_9_eq, ↓c12_28_s, ↓c12_27_s, ↓c12_20_s, ↓c12_19_s, ↓c12_18_s, ↓c12_17_s, ↓c12_14_s, ↓o12_14_eq, ↓o12_15_eq, ↓c12_31_s, ↓c12_30_s, ↓c12_29_s, ↓c12_13_s, ↓c12_12_s, ↓c12_8_s, ↓c12_7_s, ↓c12_6_s, ↓c12_5_s, ↓c12_1_s, ↓c12_s, e0, e1, e5, e20]
    refine hLoop ⟨0, none, 0, 0⟩ 3 _ _ w2.heap.size (by simp (maxSteps := 4000000) (disch := (first | assumption | exact List.not_mem_nil | exact Fr.refl _ _ | ((repeat (first | assumption | apply cur_alloc | apply cur_setB | apply cur_drew | apply cur_drewN)); done) | omega | (simp only [gz, Value.cells, oneC]; first | done | omega) | ((simp only [List.mem_cons, List.not_mem_nil, or_false, gz]); omega) | rfl)) only [↓gsd, gs, ev, Nat.reduceAdd, Nat.reduceEqDiff, oneC, Value.cells, Option.isNone, e0]) (by simp (maxSteps := 4000000) (disch := (first | assumption | exact List.not_mem_nil | exact Fr.refl _ _ | ((repeat (first | assumption | apply cur_alloc | apply cur_setB | apply cur_drew | apply cur_drewN)); done) | omega | (simp only [gz, Value.cells, oneC]; first | done | omega) | ((simp only [List.mem_cons, List.not_mem_nil, or_false, gz]); omega) | rfl)) only [↓gsd, gs, ev, Nat.reduceAdd, Nat.reduceEqDiff, oneC, Value.cells, Option.isNone, e1]) (by simp (maxSteps := 4000000) (disch := (first | assumption | exact List.not_mem_nil | exact Fr.refl _ _ | ((repeat (first | assumption | apply cur_alloc | apply cur_setB | apply cur_drew | apply cur_drewN)); done) | omega | (simp only [gz, Value.cells, oneC]; first | done | omega) | ((simp only [List.mem_cons, List.not_mem_nil, or_false, gz]); omega) | rfl)) only [↓gsd, gs, ev, Nat.reduceAdd, Nat.reduceEqDiff, oneC, Value.cells, Option.isNone, e5]) (by simp (maxSteps := 4000000) (disch := (first | assumption | exact List.not_mem_nil | exact Fr.refl _ _ | ((repeat (first | assumption | apply cur_alloc | apply cur_setB | apply cur_drew | apply cur_drewN)); done) | omega | (simp only [gz, Value.cells, oneC]; first | done | omega) | ((simp only [List.mem_cons, List.not_mem_nil, or_false, gz]); omega) | rfl)) only [↓gsd, gs, ev, Nat.reduceAdd, Nat.reduceEqDiff, oneC, Value.cells, Option.isNone]) (by simp (maxSteps := 4000000) (disch := (first | assumption | exact List.not_mem_nil | exact Fr.refl _ _ | ((repeat (first | assumption | apply cur_alloc | apply cur_setB | apply cur_drew | apply cur_drewN)); done) | omega | (simp only [gz, Value.cells, oneC]; first | done | omega) | ((simp only [List.mem_cons, List.not_mem_nil, or_false, gz]); omega) | rfl)) only [↓gsd, gs, ev, Nat.reduceAdd, Nat.reduceEqDiff, oneC, Value.cells, Option.isNone]) ?_ (hf2.trans' ((Fr.refl _ _).alloc _)) (.inr ⟨rfl, hg, rfl⟩)
    exact get_alloc_new _ _
  · have cw2 := cur w2
    have hz2 := hf2.size
    unfold Rc.v encRc
    simp (maxSteps := 4000000) (disch := (first | assumption | exact List.not_mem_nil | exact Fr.refl _ _ | ((repeat (first | assumption | apply cur_alloc | apply cur_setB | apply cur_drew | apply cur_drewN)); done) | omega | (simp only [gz, Value.cells, oneC]; first | done | omega) | ((simp only [List.mem_cons, List.not_mem_nil, or_false, gz]); omega) | rfl)) only [↓gsd, gs, ev, Nat.reduceAdd, Nat.reduceEqDiff, oneC, Value.cells, Option.isNone, gt, ↓o12_0_eq, ↓o12_16_eq, ↓o12_17_eq, ↓o12_18_eq, ↓c12_4_s, ↓c12_3_s, ↓c12_2_s, ↓o12_1_eq, ↓o12_2_eq, ↓o12_3_eq, ↓o12_4_eq, ↓o12_5_eq, ↓c12_11_s, ↓c12_10_s, ↓c12_9_s, ↓o12_6_eq, ↓o12_7_eq, ↓o12_13_eq, ↓c12_16_s, ↓o12_8_eq, ↓o12_10_eq, ↓c12_22_s, ↓o12_11_eq, ↓o12_12_eq, ↓c12_26_s, ↓c12_25_s, ↓c12_24_s, ↓c12_23_s, ↓c12_21_s, ↓o12_9_eq, ↓c12_28_s, ↓c12_27_s, ↓c12_20_s, ↓c12_19_s, ↓c12_18_s, ↓c12_17_s, ↓c12_14_s, ↓o12_14_eq, ↓o12_15_eq, ↓c12_31_s, ↓c12_30_s, ↓c12_29_s, ↓c12_13_s, ↓c12_12_s, ↓c12_8_s, ↓c12_7_s, ↓c12_6_s, ↓c12_5_s, ↓c12_1_s, ↓c12_s, e0, e1, e5, e20]
    refine hLoop r 0 _ _ w2.heap.size (by simp (maxSteps := 4000000) (disch := (first | assumption | exact List.not_mem_nil | exact Fr.refl _ _ | ((repeat (first | assumption | apply cur_alloc | apply cur_setB | apply cur_drew | apply cur_drewN)); done) | omega | (simp only [gz, Value.cells, oneC]; first | done | omega) | ((simp only [List.mem_cons, List.not_mem_nil, or_false, gz]); omega) | rfl)) only [↓gsd, gs, ev, Nat.reduceAdd, Nat.reduceEqDiff, oneC, Value.cells, Option.isNone, e0]) (by simp (maxSteps := 4000000) (disch := (first | assumption | exact List.not_mem_nil | exact Fr.refl _ _ | ((repeat (first | assumption | apply cur_alloc | apply cur_setB | apply cur_drew | apply cur_drewN)); done) | omega | (simp only [gz, Value.cells, oneC]; first | done | omega) | ((simp only [List.mem_cons, List.not_mem_nil, or_false, gz]); omega) | rfl)) only [↓gsd, gs, ev, Nat.reduceAdd, Nat.reduceEqDiff, oneC, Value.cells, Option.isNone, e1]) (by simp (maxSteps := 4000000) (disch := (first | assumption | exact List.not_mem_nil | exact Fr.refl _ _ | ((repeat (first | assumption | apply cur_alloc | apply cur_setB | apply cur_drew | apply cur_drewN)); done) | omega | (simp only [gz, Value.cells, oneC]; first | done | omega) | ((simp only [List.mem_cons, List.not_mem_nil, or_false, gz]); omega) | rfl)) only [↓gsd, gs, ev, Nat.reduceAdd, Nat.reduceEqDiff, oneC, Value.cells, Option.isNone, e5]) (by simp (maxSteps := 4000000) (disch := (first | assumption | exact List.not_mem_nil | exact Fr.refl _ _ | ((repeat (first | assumption | apply cur_alloc | apply cur_setB | apply cur_drew | apply cur_drewN)); done) | omega | (simp only [gz, Value.cells, oneC]; first | done | omega) | ((simp only [List.mem_cons, List.not_mem_nil, or_false, gz]); omega) | rfl)) only [↓gsd, gs, ev, Nat.reduceAdd, Nat.reduceEqDiff, oneC, Value.cells, Option.isNone]) (by simp (maxSteps := 4000000) (disch := (first | assumption | exact List.not_mem_nil | exact Fr.refl _ _ | ((repeat (first | assumption | apply cur_alloc | apply cur_setB | apply cur_drew | apply cur_drewN)); done) | omega | (simp only [gz, Value.cells, oneC]; first | done | omega) | ((simp only [List.mem_cons, List.not_mem_nil, or_false, gz]); omega) | rfl)) only [↓gsd, gs, ev, Nat.reduceAdd, Nat.reduceEqDiff, oneC, Value.cells, Option.isNone]) ?_ (hf2.trans' ((Fr.refl _ _).alloc _)) (.inl ⟨rfl, kk, hg, hrc.1, (show SlOf 1 encS w2 r.kv kk from hrc.2.1.sl).frN ((Fr.refl _ _).alloc _)⟩)
    exact get_alloc_new _ _
/-- The block of the op is apart. -/
theorem step_spec {o : Op6} (h : Both w0 w lb rb L) (ho : o.ok w0 ks) (hL : L.length ≤ 1048576)
    (hK : ∀ w' L', Both w0 w' lb rb L' → L'.length ≤ L.length + 1 → K (.bool true) w') :
    CallsN Try.prog 12 [.pointer (some ⟨lb, 0, none⟩), .pointer (some ⟨rb, 0, none⟩), .agg (encOp6 o).toArray] w K := by
  have cw := cur w
  obtain ⟨kd, kv, s, n, m⟩ := o
  obtain ⟨ka, kc, hkv⟩ := ho.keys.form
  simp only at hkv
  subst hkv
  have hsk := ho.keys
  simp only at hsk
  have hkl := ho.len
  unfold maxLen at hkl
  refine call12 ?_
  unfold encOp6
  obtain ⟨q, hq⟩ : ∃ q, q = kd.tmod 4 := ⟨_, rfl⟩
  have n4 : (4 : Int) ≠ 0 := by decide
  simp (maxSteps := 4000000) (disch := (first | assumption | exact List.not_mem_nil | exact Fr.refl _ _ | ((repeat (first | assumption | apply cur_alloc | apply cur_setB | apply cur_drew | apply cur_drewN)); done) | omega | (simp only [gz, Value.cells, oneC]; first | done | omega) | ((simp only [List.mem_cons, List.not_mem_nil, or_false, gz]); omega) | rfl)) only [↓gsd, gs, ev, Nat.reduceAdd, Nat.reduceEqDiff, oneC, Value.cells, Option.isNone, gt, ↓o12_0_eq, ↓o12_16_eq, ↓o12_17_eq, ↓o12_18_eq, ↓c12_4_s, ↓c12_3_s, ↓c12_2_s, ↓o12_1_eq, ↓o12_2_eq, ↓o12_3_eq, ↓o12_4_eq, ↓o12_5_eq, ↓c12_11_s, ↓c12_10_s, ↓c12_9_s, ↓o12_6_eq, ↓o12_7_eq, ↓o12_13_eq, ↓c12_16_s, ↓o12_8_eq, ↓o12_10_eq, ↓c12_22_s, ↓o12_11_eq, ↓o12_12_eq, ↓c12_26_s, ↓c12_25_s, ↓c12_24_s, ↓c12_23_s, ↓c12_21_s, ↓o12_9_eq, ↓c12_28_s, ↓c12_27_s, ↓c12_20_s, ↓c12_19_s, ↓c12_18_s, ↓c12_17_s, ↓c12_15_s, ↓c12_14_s, ↓o12_14_eq, ↓o12_15_eq, ↓c12_31_s, ↓c12_30_s, ↓c12_29_s, ↓c12_13_s, ↓c12_12_s, ↓c12_8_s, ↓c12_7_s, ↓c12_5_s, ↓c12_1_s, ↓c12_s, run_rem _ _ _ _ _ _ _ n4, ← hq]
  generalize hW : World.alloc w _ = w1
  have hf1 : Fr [] w w1 := by rw [← hW]; (repeat (first | exact Fr.refl _ _ | assumption | with_reducible apply Fr.alloc | with_reducible apply Fr.drew | with_reducible refine Fr.setB ?_ _ _ (.inr (by first | omega | (simp only [gz]; omega))) | with_reducible refine Fr.setB ?_ _ _ (.inl (by first | assumption | simp)) | with_reducible refine Fr.trans' ?_ (by assumption)))
  have hz1 : w1.heap.size = w.heap.size + 1 := by rw [← hW]; simp only [gz]
  have g5 : w1.heap[w.heap.size]? = some (.cells ([.int .u8 kd, .slice ka ks.length kc, .string s, .int .i64 n, .int .i64 m] : List Value).toArray 41 (0, 0)) := by rw [← hW]; exact get_alloc_new _ _
  clear hW
  have h1 := h.frN hf1
  by_cases q0 : q = 0
  · obtain ⟨⟨W1, R1, W2, R2, a1, a2, a3, a4⟩, afr⟩ := h
    exact step0 (a1.frN hf1) (a2.frN hf1) a3 a4 (afr.trans' hf1) g5 (fun hm => by have := a1.lt _ (.inl hm); omega) hsk hkl hL (by simp (maxSteps := 4000000) (disch := (first | assumption | exact List.not_mem_nil | exact Fr.refl _ _ | ((repeat (first | assumption | apply cur_alloc | apply cur_setB | apply cur_drew | apply cur_drewN)); done) | omega | (simp only [gz, Value.cells, oneC]; first | done | omega) | ((simp only [List.mem_cons, List.not_mem_nil, or_false, gz]); omega) | rfl)) only [↓gsd, gs, ev, Nat.reduceAdd, Nat.reduceEqDiff, oneC, Value.cells, Option.isNone]) (by simp (maxSteps := 4000000) (disch := (first | assumption | exact List.not_mem_nil | exact Fr.refl _ _ | ((repeat (first | assumption | apply cur_alloc | apply cur_setB | apply cur_drew | apply cur_drewN)); done) | omega | (simp only [gz, Value.cells, oneC]; first | done | omega) | ((simp only [List.mem_cons, List.not_mem_nil, or_false, gz]); omega) | rfl)) only [↓gsd, gs, ev, Nat.reduceAdd, Nat.reduceEqDiff, oneC, Value.cells, Option.isNone]) (by simp (maxSteps := 4000000) (disch := (first | assumption | exact List.not_mem_nil | exact Fr.refl _ _ | ((repeat (first | assumption | apply cur_alloc | apply cur_setB | apply cur_drew | apply cur_drewN)); done) | omega | (simp only [gz, Value.cells, oneC]; first | done | omega) | ((simp only [List.mem_cons, List.not_mem_nil, or_false, gz]); omega) | rfl)) only [↓gsd, gs, ev, Nat.reduceAdd, Nat.reduceEqDiff, oneC, Value.cells, Option.isNone]) (by simp (maxSteps := 4000000) (disch := (first | assumption | exact List.not_mem_nil | exact Fr.refl _ _ | ((repeat (first | assumption | apply cur_alloc | apply cur_setB | apply cur_drew | apply cur_drewN)); done) | omega | (simp only [gz, Value.cells, oneC]; first | done | omega) | ((simp only [List.mem_cons, List.not_mem_nil, or_false, gz]); omega) | rfl)) only [↓gsd, gs, ev, Nat.reduceAdd, Nat.reduceEqDiff, oneC, Value.cells, Option.isNone, q0]) hK
  by_cases q1 : q = 1
  · exact step1 h1 g5 hL (by simp (maxSteps := 4000000) (disch := (first | assumption | exact List.not_mem_nil | exact Fr.refl _ _ | ((repeat (first | assumption | apply cur_alloc | apply cur_setB | apply cur_drew | apply cur_drewN)); done) | omega | (simp only [gz, Value.cells, oneC]; first | done | omega) | ((simp only [List.mem_cons, List.not_mem_nil, or_false, gz]); omega) | rfl)) only [↓gsd, gs, ev, Nat.reduceAdd, Nat.reduceEqDiff, oneC, Value.cells, Option.isNone]) (by simp (maxSteps := 4000000) (disch := (first | assumption | exact List.not_mem_nil | exact Fr.refl _ _ | ((repeat (first | assumption | apply cur_alloc | apply cur_setB | apply cur_drew | apply cur_drewN)); done) | omega | (simp only [gz, Value.cells, oneC]; first | done | omega) | ((simp only [List.mem_cons, List.not_mem_nil, or_false, gz]); omega) | rfl)) only [↓gsd, gs, ev, Nat.reduceAdd, Nat.reduceEqDiff, oneC, Value.cells, Option.isNone]) (by simp (maxSteps := 4000000) (disch := (first | assumption | exact List.not_mem_nil | exact Fr.refl _ _ | ((repeat (first | assumption | apply cur_alloc | apply cur_setB | apply cur_drew | apply cur_drewN)); done) | omega | (simp only [gz, Value.cells, oneC]; first | done | omega) | ((simp only [List.mem_cons, List.not_mem_nil, or_false, gz]); omega) | rfl)) only [↓gsd, gs, ev, Nat.reduceAdd, Nat.reduceEqDiff, oneC, Value.cells, Option.isNone]) (by simp (maxSteps := 4000000) (disch := (first | assumption | exact List.not_mem_nil | exact Fr.refl _ _ | ((repeat (first | assumption | apply cur_alloc | apply cur_setB | apply cur_drew | apply cur_drewN)); done) | omega | (simp only [gz, Value.cells, oneC]; first | done | omega) | ((simp only [List.mem_cons, List.not_mem_nil, or_false, gz]); omega) | rfl)) only [↓gsd, gs, ev, Nat.reduceAdd, Nat.reduceEqDiff, oneC, Value.cells, Option.isNone, q1]) hK
  by_cases q2 : q = 2
  · exact step2 h1 g5 hL (by simp (maxSteps := 4000000) (disch := (first | assumption | exact List.not_mem_nil | exact Fr.refl _ _ | ((repeat (first | assumption | apply cur_alloc | apply cur_setB | apply cur_drew | apply cur_drewN)); done) | omega | (simp only [gz, Value.cells, oneC]; first | done | omega) | ((simp only [List.mem_cons, List.not_mem_nil, or_false, gz]); omega) | rfl)) only [↓gsd, gs, ev, Nat.reduceAdd, Nat.reduceEqDiff, oneC, Value.cells, Option.isNone]) (by simp (maxSteps := 4000000) (disch := (first | assumption | exact List.not_mem_nil | exact Fr.refl _ _ | ((repeat (first | assumption | apply cur_alloc | apply cur_setB | apply cur_drew | apply cur_drewN)); done) | omega | (simp only [gz, Value.cells, oneC]; first | done | omega) | ((simp only [List.mem_cons, List.not_mem_nil, or_false, gz]); omega) | rfl)) only [↓gsd, gs, ev, Nat.reduceAdd, Nat.reduceEqDiff, oneC, Value.cells, Option.isNone]) (by simp (maxSteps := 4000000) (disch := (first | assumption | exact List.not_mem_nil | exact Fr.refl _ _ | ((repeat (first | assumption | apply cur_alloc | apply cur_setB | apply cur_drew | apply cur_drewN)); done) | omega | (simp only [gz, Value.cells, oneC]; first | done | omega) | ((simp only [List.mem_cons, List.not_mem_nil, or_false, gz]); omega) | rfl)) only [↓gsd, gs, ev, Nat.reduceAdd, Nat.reduceEqDiff, oneC, Value.cells, Option.isNone]) (by simp (maxSteps := 4000000) (disch := (first | assumption | exact List.not_mem_nil | exact Fr.refl _ _ | ((repeat (first | assumption | apply cur_alloc | apply cur_setB | apply cur_drew | apply cur_drewN)); done) | omega | (simp only [gz, Value.cells, oneC]; first | done | omega) | ((simp only [List.mem_cons, List.not_mem_nil, or_false, gz]); omega) | rfl)) only [↓gsd, gs, ev, Nat.reduceAdd, Nat.reduceEqDiff, oneC, Value.cells, Option.isNone, q2]) hK
  exact step3 h1 g5 hL (by simp (maxSteps := 4000000) (disch := (first | assumption | exact List.not_mem_nil | exact Fr.refl _ _ | ((repeat (first | assumption | apply cur_alloc | apply cur_setB | apply cur_drew | apply cur_drewN)); done) | omega | (simp only [gz, Value.cells, oneC]; first | done | omega) | ((simp only [List.mem_cons, List.not_mem_nil, or_false, gz]); omega) | rfl)) only [↓gsd, gs, ev, Nat.reduceAdd, Nat.reduceEqDiff, oneC, Value.cells, Option.isNone]) (by simp (maxSteps := 4000000) (disch := (first | assumption | exact List.not_mem_nil | exact Fr.refl _ _ | ((repeat (first | assumption | apply cur_alloc | apply cur_setB | apply cur_drew | apply cur_drewN)); done) | omega | (simp only [gz, Value.cells, oneC]; first | done | omega) | ((simp only [List.mem_cons, List.not_mem_nil, or_false, gz]); omega) | rfl)) only [↓gsd, gs, ev, Nat.reduceAdd, Nat.reduceEqDiff, oneC, Value.cells, Option.isNone]) (by simp (maxSteps := 4000000) (disch := (first | assumption | exact List.not_mem_nil | exact Fr.refl _ _ | ((repeat (first | assumption | apply cur_alloc | apply cur_setB | apply cur_drew | apply cur_drewN)); done) | omega | (simp only [gz, Value.cells, oneC]; first | done | omega) | ((simp only [List.mem_cons, List.not_mem_nil, or_false, gz]); omega) | rfl)) only [↓gsd, gs, ev, Nat.reduceAdd, Nat.reduceEqDiff, oneC, Value.cells, Option.isNone]) (by simp (maxSteps := 4000000) (disch := (first | assumption | exact List.not_mem_nil | exact Fr.refl _ _ | ((repeat (first | assumption | apply cur_alloc | apply cur_setB | apply cur_drew | apply cur_drewN)); done) | omega | (simp only [gz, Value.cells, oneC]; first | done | omega) | ((simp only [List.mem_cons, List.not_mem_nil, or_false, gz]); omega) | rfl)) only [↓gsd, gs, ev, Nat.reduceAdd, Nat.reduceEqDiff, oneC, Value.cells, Option.isNone]) q0 q1 q2 hK
end
end Go.Proofs.Ytenokheiindfkab
