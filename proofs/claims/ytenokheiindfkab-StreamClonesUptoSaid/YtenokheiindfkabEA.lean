/- StreamClones: the clone's own way, and the end. -/
import Derived.Test.YtenokheiindfkabE9
set_option linter.unusedVariables false
set_option linter.unusedSimpArgs false
set_option maxRecDepth 10000
namespace Go.Proofs.Ytenokheiindfkab
open Go.VW
set_option maxHeartbeats 16000000 in
theorem clonesD {w0 wC w : World} {lb rb cb sb : Nat} {pv : Value} {ops : List Op6} {L : List Ks} {e : Env} {Q : Exit → Env → World → Prop} (hB : Both wC w cb sb L) (hC : Fr [] w0 wC) (h : SlOf 5 encOp6 w0 pv ops) (ho : ∀ o ∈ ops, ∃ ks, o.ok w0 ks) (hL : L.length + ops.length ≤ 1048576)
    (e1 : e 1 = pv) (e5 : e 5 = .pointer (some ⟨lb, 0, none⟩)) (e6 : e 6 = .pointer (some ⟨rb, 0, none⟩)) (e17 : e 17 = .pointer (some ⟨cb, 0, none⟩)) (e18 : e 18 = .pointer (some ⟨sb, 0, none⟩))
    (hQ : ∀ (e' : Env) (w' : World) (L' : List Ks), e' 5 = .pointer (some ⟨lb, 0, none⟩) → e' 6 = .pointer (some ⟨rb, 0, none⟩) → e' 17 = .pointer (some ⟨cb, 0, none⟩) → e' 18 = .pointer (some ⟨sb, 0, none⟩) → L'.length ≤ 1048576 → Both wC w' cb sb L' → Q .normal e' w') : W3 Try.prog 170 V6 c6_10 Q e w := by
  have cw := cur w
  obtain ⟨pa, pc, hpv⟩ := h.form
  simp (maxSteps := 4000000) (disch := (first | assumption | exact List.not_mem_nil | exact Fr.refl _ _ | ((repeat (first | assumption | apply cur_alloc | apply cur_setB | apply cur_drew | apply cur_drewN)); done) | omega | (simp only [gz, Value.cells, oneC]; first | done | omega) | ((simp only [List.mem_cons, List.not_mem_nil, or_false, gz]); omega) | rfl)) only [↓gsd, gs, ev, Nat.reduceAdd, Nat.reduceEqDiff, oneC, Value.cells, Option.isNone, gt, ↓hk6, e1, e5, e6, e17, e18]
  refine loop_intro (fun e w' => ∃ (i : Nat) (L' : List Ks), i ≤ ops.length ∧ e 1 = pv ∧ e 5 = .pointer (some ⟨lb, 0, none⟩) ∧ e 6 = .pointer (some ⟨rb, 0, none⟩) ∧ e 17 = .pointer (some ⟨cb, 0, none⟩) ∧ e 18 = .pointer (some ⟨sb, 0, none⟩) ∧ e 19 = .int .i64 i ∧ L'.length ≤ L.length + i ∧ Both wC w' cb sb L') (fun e _ => ops.length - (numOf (e 19)).toNat) ?_ ?_
  · refine ⟨0, L, Nat.zero_le _, ?_⟩
    simp (maxSteps := 4000000) (disch := (first | assumption | exact List.not_mem_nil | exact Fr.refl _ _ | ((repeat (first | assumption | apply cur_alloc | apply cur_setB | apply cur_drew | apply cur_drewN)); done) | omega | (simp only [gz, Value.cells, oneC]; first | done | omega) | ((simp only [List.mem_cons, List.not_mem_nil, or_false, gz]); omega) | rfl)) only [↓gsd, gs, ev, Nat.reduceAdd, Nat.reduceEqDiff, oneC, Value.cells, Option.isNone, e1, e5, e6, e17, e18, Int.natCast_zero]
    exact ⟨Nat.le_refl _, hB⟩
  rintro e w1 k ⟨i, L', hi, e1, e5, e6, e17, e18, e19, hL', hB'⟩ hk
  have cw1 := cur w1
  by_cases hil : i < ops.length
  · have d : decide ((i : Int) < (ops.length : Int)) = true := decide_eq_true (by omega)
    obtain ⟨o, hoi⟩ : ∃ o, ops[i]? = some o := ⟨ops[i], List.getElem?_eq_getElem hil⟩
    obtain ⟨ks, hok⟩ := ho o (List.mem_of_getElem? hoi)
    obtain ⟨bb, off, cap, ob, hv1, hob, _, hrow, _⟩ := (h.frN (hC.trans' hB'.fr)).read encOp6_len i o hoi
    have i0 : (0 : Int) ≤ (i : Int) := by omega
    have i1 : (i : Int) < (ops.length : Int) := by omega
    have i3 : ((i : Int) + 1).toNat = i + 1 := by omega
    simp (maxSteps := 4000000) (disch := (first | assumption | exact List.not_mem_nil | exact Fr.refl _ _ | ((repeat (first | assumption | apply cur_alloc | apply cur_setB | apply cur_drew | apply cur_drewN)); done) | omega | (simp only [gz, Value.cells, oneC]; first | done | omega) | ((simp only [List.mem_cons, List.not_mem_nil, or_false, gz]); omega) | rfl)) only [↓gsd, gs, ev, Nat.reduceAdd, Nat.reduceEqDiff, oneC, Value.cells, Option.isNone, gt, ↓hk6, e1, e5, e6, e17, e18, e19, hv1, d, i0, i1, Int.toNat_natCast, hob, hrow]
    refine step_spec hB' (hok.frN hC) (by omega) fun w5 L5 hB5 hL5 => ?_
    have cw5 := cur w5
    simp (maxSteps := 4000000) (disch := (first | assumption | exact List.not_mem_nil | exact Fr.refl _ _ | ((repeat (first | assumption | apply cur_alloc | apply cur_setB | apply cur_drew | apply cur_drewN)); done) | omega | (simp only [gz, Value.cells, oneC]; first | done | omega) | ((simp only [List.mem_cons, List.not_mem_nil, or_false, gz]); omega) | rfl)) only [↓gsd, gs, ev, Nat.reduceAdd, Nat.reduceEqDiff, oneC, Value.cells, Option.isNone, gt, ↓hk6, e1, e5, e6, e17, e18, e19]
    refine hk _ _ ⟨i + 1, L5, by omega, ?_⟩ ?_
    · simp (maxSteps := 4000000) (disch := (first | assumption | exact List.not_mem_nil | exact Fr.refl _ _ | ((repeat (first | assumption | apply cur_alloc | apply cur_setB | apply cur_drew | apply cur_drewN)); done) | omega | (simp only [gz, Value.cells, oneC]; first | done | omega) | ((simp only [List.mem_cons, List.not_mem_nil, or_false, gz]); omega) | rfl)) only [↓gsd, gs, ev, Nat.reduceAdd, Nat.reduceEqDiff, oneC, Value.cells, Option.isNone, e1, e5, e6, e17, e18, e19, hv1, Int.natCast_add i 1, Int.natCast_one]
      exact ⟨by omega, hB5⟩
    · simp (maxSteps := 4000000) (disch := (first | assumption | exact List.not_mem_nil | exact Fr.refl _ _ | ((repeat (first | assumption | apply cur_alloc | apply cur_setB | apply cur_drew | apply cur_drewN)); done) | omega | (simp only [gz, Value.cells, oneC]; first | done | omega) | ((simp only [List.mem_cons, List.not_mem_nil, or_false, gz]); omega) | rfl)) only [↓gsd, gs, ev, Nat.reduceAdd, Nat.reduceEqDiff, oneC, Value.cells, Option.isNone, e19, numOf, Int.toNat_natCast, i3]; omega
  · have d : decide ((i : Int) < (ops.length : Int)) = false := decide_eq_false (by omega)
    simp (maxSteps := 4000000) (disch := (first | assumption | exact List.not_mem_nil | exact Fr.refl _ _ | ((repeat (first | assumption | apply cur_alloc | apply cur_setB | apply cur_drew | apply cur_drewN)); done) | omega | (simp only [gz, Value.cells, oneC]; first | done | omega) | ((simp only [List.mem_cons, List.not_mem_nil, or_false, gz]); omega) | rfl)) only [↓gsd, gs, ev, Nat.reduceAdd, Nat.reduceEqDiff, oneC, Value.cells, Option.isNone, gt, ↓hk6, e1, e5, e6, e17, e18, e19, hpv, d]
    exact hQ _ _ L' (by simp (maxSteps := 4000000) (disch := (first | assumption | exact List.not_mem_nil | exact Fr.refl _ _ | ((repeat (first | assumption | apply cur_alloc | apply cur_setB | apply cur_drew | apply cur_drewN)); done) | omega | (simp only [gz, Value.cells, oneC]; first | done | omega) | ((simp only [List.mem_cons, List.not_mem_nil, or_false, gz]); omega) | rfl)) only [↓gsd, gs, ev, Nat.reduceAdd, Nat.reduceEqDiff, oneC, Value.cells, Option.isNone, e5]) (by simp (maxSteps := 4000000) (disch := (first | assumption | exact List.not_mem_nil | exact Fr.refl _ _ | ((repeat (first | assumption | apply cur_alloc | apply cur_setB | apply cur_drew | apply cur_drewN)); done) | omega | (simp only [gz, Value.cells, oneC]; first | done | omega) | ((simp only [List.mem_cons, List.not_mem_nil, or_false, gz]); omega) | rfl)) only [↓gsd, gs, ev, Nat.reduceAdd, Nat.reduceEqDiff, oneC, Value.cells, Option.isNone, e6]) (by simp (maxSteps := 4000000) (disch := (first | assumption | exact List.not_mem_nil | exact Fr.refl _ _ | ((repeat (first | assumption | apply cur_alloc | apply cur_setB | apply cur_drew | apply cur_drewN)); done) | omega | (simp only [gz, Value.cells, oneC]; first | done | omega) | ((simp only [List.mem_cons, List.not_mem_nil, or_false, gz]); omega) | rfl)) only [↓gsd, gs, ev, Nat.reduceAdd, Nat.reduceEqDiff, oneC, Value.cells, Option.isNone, e17]) (by simp (maxSteps := 4000000) (disch := (first | assumption | exact List.not_mem_nil | exact Fr.refl _ _ | ((repeat (first | assumption | apply cur_alloc | apply cur_setB | apply cur_drew | apply cur_drewN)); done) | omega | (simp only [gz, Value.cells, oneC]; first | done | omega) | ((simp only [List.mem_cons, List.not_mem_nil, or_false, gz]); omega) | rfl)) only [↓gsd, gs, ev, Nat.reduceAdd, Nat.reduceEqDiff, oneC, Value.cells, Option.isNone, e18]) (by omega) hB'
theorem fromL_all (L : List Ks) (n : Int) (hn : n ≤ 1) (hL : L.length ≤ 1048576) : fromL L n 1073741824 = recsL L := by
  unfold fromL
  have : (n - 1).toNat = 0 := by omega
  rw [this, List.drop_zero, List.take_of_length_le]
  rw [recsL_len]
  have : (1073741824 : Int).toNat = 1073741824 := rfl
  omega
theorem recsL_le8 {w : World} {lb : Nat} {Wr Rd : List Nat} {L : List Ks} (h : LogAt w lb Wr Rd L) : ∀ x ∈ recsL L, x.2.length ≤ 8 := fun x hx => by
  obtain ⟨i, hi⟩ := List.getElem?_of_mem hx
  rw [recsL_get] at hi
  cases hk : L[i]? with
  | none => rw [hk] at hi; cases hi
  | some kk => rw [hk] at hi; cases hi; exact (chkK_ok (h.ok kk (List.mem_of_getElem? hk))).2.1
set_option maxHeartbeats 16000000 in
theorem clonesE {w : World} {lb rb cb sb : Nat} {W1 R1 W2 R2 W3' R3 W4 R4 : List Nat} {L L' : List Ks} {e : Env} {K : Value → World → Prop} (h1 : LogAt w lb W1 R1 L) (h2 : RLogAt w rb W2 R2 L) (h3 : LogAt w cb W3' R3 L') (h4 : RLogAt w sb W4 R4 L') (hL : L.length ≤ 1048576) (hL' : L'.length ≤ 1048576)
    (e5 : e 5 = .pointer (some ⟨lb, 0, none⟩)) (e6 : e 6 = .pointer (some ⟨rb, 0, none⟩)) (e17 : e 17 = .pointer (some ⟨cb, 0, none⟩)) (e18 : e 18 = .pointer (some ⟨sb, 0, none⟩))
    (hK : ∀ w', Fr [] w w' → K (.bool true) w') : W3 Try.prog 170 V6 c6_9 (retQ Try.prog [.tmp 4] K) e w := by
  have cw := cur w
  obtain ⟨⟨v2, hh2, hr2⟩, _, _⟩ := h2
  obtain ⟨⟨v4, hh4, hr4⟩, _, _⟩ := h4
  obtain ⟨a2, c2, hv2⟩ := hr2.form
  obtain ⟨a4, c4, hv4⟩ := hr4.form
  rw [hv2] at hh2
  rw [hv4] at hh4
  have hl2 := lt_of_get _ _ hh2
  have hl4 := lt_of_get _ _ hh4
  simp (maxSteps := 4000000) (disch := (first | assumption | exact List.not_mem_nil | exact Fr.refl _ _ | ((repeat (first | assumption | apply cur_alloc | apply cur_setB | apply cur_drew | apply cur_drewN)); done) | omega | (simp only [gz, Value.cells, oneC]; first | done | omega) | ((simp only [List.mem_cons, List.not_mem_nil, or_false, gz]); omega) | rfl)) only [↓gsd, gs, ev, Nat.reduceAdd, Nat.reduceEqDiff, oneC, Value.cells, Option.isNone, gt, frT_self, frT_drew, frT_drew0, frT_alloc, ↓hk6, e5, e6, e17, e18, hh2, hh4]
  refine from_log (h1.frN (Fr.refl _ _).drew) fun v w5 hr5 hf5 => ?_
  rw [fromL_all L 1 (by decide) hL] at hr5
  have cw5 := cur w5
  have hF5 : Fr [] w w5 := (Fr.refl _ _).drew.trans' hf5
  simp (maxSteps := 4000000) (disch := (first | assumption | exact List.not_mem_nil | exact Fr.refl _ _ | ((repeat (first | assumption | apply cur_alloc | apply cur_setB | apply cur_drew | apply cur_drewN)); done) | omega | (simp only [gz, Value.cells, oneC]; first | done | omega) | ((simp only [List.mem_cons, List.not_mem_nil, or_false, gz]); omega) | rfl)) only [↓gsd, gs, ev, Nat.reduceAdd, Nat.reduceEqDiff, oneC, Value.cells, Option.isNone, gt, frT_self, frT_drew, frT_drew0, frT_alloc, eq_true hF5, ↓hk6, e5, e6, e17, e18]
  rw [← hv2]
  refine sameAll_true hr5 (hr2.frN hF5) (by rw [recsL_len]; omega) (recsL_le8 h1) fun w6 hf6 => ?_
  have cw6 := cur w6
  have hF6 := hF5.trans' hf6
  have hh46 := hF6.getN hh4
  have hl46 := lt_of_get _ _ hh46
  simp (maxSteps := 4000000) (disch := (first | assumption | exact List.not_mem_nil | exact Fr.refl _ _ | ((repeat (first | assumption | apply cur_alloc | apply cur_setB | apply cur_drew | apply cur_drewN)); done) | omega | (simp only [gz, Value.cells, oneC]; first | done | omega) | ((simp only [List.mem_cons, List.not_mem_nil, or_false, gz]); omega) | rfl)) only [↓gsd, gs, ev, Nat.reduceAdd, Nat.reduceEqDiff, oneC, Value.cells, Option.isNone, gt, frT_self, frT_drew, frT_drew0, frT_alloc, ↓hk6, e5, e6, e17, e18, hh46]
  refine from_log (h3.frN hF6) fun v' w7 hr7 hf7 => ?_
  rw [fromL_all L' 0 (by decide) hL'] at hr7
  have cw7 := cur w7
  have hF7 := hF6.trans' hf7
  simp (maxSteps := 4000000) (disch := (first | assumption | exact List.not_mem_nil | exact Fr.refl _ _ | ((repeat (first | assumption | apply cur_alloc | apply cur_setB | apply cur_drew | apply cur_drewN)); done) | omega | (simp only [gz, Value.cells, oneC]; first | done | omega) | ((simp only [List.mem_cons, List.not_mem_nil, or_false, gz]); omega) | rfl)) only [↓gsd, gs, ev, Nat.reduceAdd, Nat.reduceEqDiff, oneC, Value.cells, Option.isNone, gt, frT_self, frT_drew, frT_drew0, frT_alloc, eq_true hf7, ↓hk6, e5, e6, e17, e18]
  rw [← hv4]
  refine sameAll_true hr7 (hr4.frN hF7) (by rw [recsL_len]; omega) (recsL_le8 h3) fun w8 hf8 => ?_
  have cw8 := cur w8
  try simp (maxSteps := 4000000) (disch := (first | assumption | exact List.not_mem_nil | exact Fr.refl _ _ | ((repeat (first | assumption | apply cur_alloc | apply cur_setB | apply cur_drew | apply cur_drewN)); done) | omega | (simp only [gz, Value.cells, oneC]; first | done | omega) | ((simp only [List.mem_cons, List.not_mem_nil, or_false, gz]); omega) | rfl)) only [↓gsd, gs, ev, Nat.reduceAdd, Nat.reduceEqDiff, oneC, Value.cells, Option.isNone, gt, frT_self, frT_drew, frT_drew0, frT_alloc, eq_true hf8, ↓hk6, e5, e6, e17, e18]
  exact hK _ (hF7.trans' hf8)
end Go.Proofs.Ytenokheiindfkab
