/- StreamPieces walked. -/
import Derived.Test.YtenokheiindfkabD8
set_option linter.unusedVariables false
set_option linter.unusedSimpArgs false
set_option maxRecDepth 10000
namespace Go.Proofs.Ytenokheiindfkab
open Go.VW
def encB (b : Int) : List Value := [.int .u8 b]
theorem encB_len (b : Int) : (encB b).length = 1 := rfl
theorem fromL_len (L : List Ks) (n m : Int) : (fromL L n m).length = min m.toNat (L.length - (n - 1).toNat) := by
  unfold fromL
  rw [List.length_take, List.length_drop, recsL_len]
theorem fromL_get (L : List Ks) (n m : Int) (k : Nat) (hk : k < (fromL L n m).length) : ∃ ks, L[(n - 1).toNat + k]? = some ks ∧ (fromL L n m)[k]? = some ((((n - 1).toNat + k : Nat) : Int) + 1, ks) := by
  have hl := fromL_len L n m
  obtain ⟨ks, hks⟩ : ∃ ks, L[(n - 1).toNat + k]? = some ks := ⟨L[(n - 1).toNat + k]'(by omega), List.getElem?_eq_getElem (by omega)⟩
  refine ⟨ks, hks, ?_⟩
  unfold fromL
  rw [List.getElem?_take, if_pos (by omega), List.getElem?_drop, recsL_get, hks]
  rfl
set_option maxHeartbeats 16000000 in
theorem pieces_inner {w : World} {lb : Nat} {Wr Rd : List Nat} {L : List Ks} {xs : List (Int × Ks)} {R R' : Nat → Prop} {a j : Nat} {p : Int} {pv vg : Value} {e : Env} {Q : Exit → Env → World → Prop} (hxs : xs = fromL L ((a : Int) + 1) p) (h : LogAt w lb Wr Rd L) (hg : RcsAt w R R' vg xs) (ha : a ≤ L.length)
    (e1 : e 1 = pv) (e5 : e 5 = .pointer (some ⟨lb, 0, none⟩)) (e7 : e 7 = .int .i64 a) (e8 : e 8 = .int .i64 j) (e9 : e 9 = vg)
    (hQ : ∀ (e' : Env) (w' : World), e' 1 = pv → e' 5 = .pointer (some ⟨lb, 0, none⟩) → e' 7 = .int .i64 ((a + xs.length : Nat) : Int) → e' 8 = .int .i64 j → Fr [] w w' → Q .normal e' w') : W Try.prog 111 V5 c5_16 Q e w := by
  have cw := cur w
  have hLl := h.len
  obtain ⟨⟨rs, hown, hrl, hat⟩, _⟩ := hg
  obtain ⟨ga, gc, hvg⟩ := hown.sl.form
  have hgl := fromL_len L ((a : Int) + 1) p
  have ea : ((a : Int) + 1 - 1).toNat = a := by omega
  rw [ea, ← hxs] at hgl
  simp (maxSteps := 4000000) (disch := (first | assumption | exact List.not_mem_nil | exact Fr.refl _ _ | ((repeat (first | assumption | apply cur_alloc | apply cur_setB | apply cur_drew | apply cur_drewN)); done) | omega | (simp only [gz, Value.cells, oneC]; first | done | omega) | ((simp only [List.mem_cons, List.not_mem_nil, or_false, gz]); omega) | rfl)) only [↓gsd, gs, ev, Nat.reduceAdd, Nat.reduceEqDiff, oneC, Value.cells, Option.isNone, gt, ↓hk5, e1, e5, e7, e8, e9]
  refine loop_intro (fun e w' => ∃ k : Nat, k ≤ rs.length ∧ e 1 = pv ∧ e 5 = .pointer (some ⟨lb, 0, none⟩) ∧ e 7 = .int .i64 ((a + k : Nat) : Int) ∧ e 8 = .int .i64 j ∧ e 9 = vg ∧ e 10 = .int .i64 k ∧ Fr [] w w')
    (fun e _ => rs.length - (numOf (e 10)).toNat) ?_ ?_
  · refine ⟨0, Nat.zero_le _, ?_⟩
    simp (maxSteps := 4000000) (disch := (first | assumption | exact List.not_mem_nil | exact Fr.refl _ _ | ((repeat (first | assumption | apply cur_alloc | apply cur_setB | apply cur_drew | apply cur_drewN)); done) | omega | (simp only [gz, Value.cells, oneC]; first | done | omega) | ((simp only [List.mem_cons, List.not_mem_nil, or_false, gz]); omega) | rfl)) only [↓gsd, gs, ev, Nat.reduceAdd, Nat.reduceEqDiff, oneC, Value.cells, Option.isNone, e1, e5, e7, e8, e9, Int.natCast_zero, Nat.add_zero]
    exact Fr.refl _ _
  rintro e w1 k' ⟨k, hk, e1, e5, e7, e8, e9, e10, hf⟩ hk'
  have cw1 := cur w1
  have hz1 := hf.size
  by_cases hkl : k < rs.length
  · have dk : decide ((k : Int) < (rs.length : Int)) = true := decide_eq_true (by omega)
    have k0 : (0 : Int) ≤ (k : Int) := by omega
    have k1 : (k : Int) < (rs.length : Int) := by omega
    have k3 : ((k : Int) + 1).toNat = k + 1 := by omega
    have wa : IntKind.i64.wrap (((a + k : Nat) : Int) + 1) = ((a + k : Nat) : Int) + 1 := wrap64 (by omega) (by omega)
    obtain ⟨ks, hks, hxk⟩ := fromL_get L ((a : Int) + 1) p k (by rw [← hxs]; omega)
    rw [ea, ← hxs] at hxk
    rw [ea] at hks
    obtain ⟨r, hr⟩ : ∃ r, rs[k]? = some r := ⟨rs[k], List.getElem?_eq_getElem hkl⟩
    obtain ⟨q1, q2, _⟩ := hat k r _ hr hxk
    obtain ⟨ra, rc, hrv⟩ := q2.sl.form
    unfold Rc.kv at hrv
    simp only [Value.slice.injEq] at hrv
    simp (maxSteps := 4000000) (disch := (first | assumption | exact List.not_mem_nil | exact Fr.refl _ _ | ((repeat (first | assumption | apply cur_alloc | apply cur_setB | apply cur_drew | apply cur_drewN)); done) | omega | (simp only [gz, Value.cells, oneC]; first | done | omega) | ((simp only [List.mem_cons, List.not_mem_nil, or_false, gz]); omega) | rfl)) only [↓gsd, gs, ev, Nat.reduceAdd, Nat.reduceEqDiff, oneC, Value.cells, Option.isNone, gt, ↓hk5, e1, e5, e7, e8, e9, e10, hvg, dk, wa]
    refine get_log (h.frN hf) (fun e => by rw [getL_at hks] at e; cases e) fun ks' r' w2 hg' hf2 hrc => ?_
    rw [getL_at hks] at hg'; cases hg'
    have cw2 := cur w2
    have hz2 := hf2.size
    obtain ⟨p1, p2, _⟩ := hrc
    obtain ⟨pa, pc, hpv⟩ := p2.sl.form
    unfold Rc.kv at hpv
    simp only [Value.slice.injEq] at hpv
    unfold Rc.v encRc
    obtain ⟨b2, off2, cap2, o2, hvb2, hob2, hbl2, _, hcell2⟩ := (show SlOf 2 encRc w2 vg rs from (hown.sl.frN hf).frN hf2).read encRc_len k r hr
    have hc2 := fun orig K => hcell2 0 (.int .i64 r.n) orig K rfl
    have hc3 := fun orig K => hcell2 1 (.slice r.a r.l r.c) orig K rfl
    simp only [Nat.add_zero] at hc2
    rw [hvg] at hvb2
    have dn : decide (r.n = ((a + k : Nat) : Int) + 1) = true := decide_eq_true (by rw [q1])
    have dl : decide ((r'.l : Int) = (r.l : Int)) = true := decide_eq_true (by rw [hrv.2.1, hpv.2.1])
    simp (maxSteps := 4000000) (disch := (first | assumption | exact List.not_mem_nil | exact Fr.refl _ _ | ((repeat (first | assumption | apply cur_alloc | apply cur_setB | apply cur_drew | apply cur_drewN)); done) | omega | (simp only [gz, Value.cells, oneC]; first | done | omega) | ((simp only [List.mem_cons, List.not_mem_nil, or_false, gz]); omega) | rfl)) only [↓gsd, gs, ev, Nat.reduceAdd, Nat.reduceEqDiff, oneC, Value.cells, Option.isNone, gt, ↓hk5, e1, e5, e7, e8, e9, e10, hvg]
    generalize hW2 : World.alloc w2 _ = w3
    have hf3 : Fr [] w2 w3 := by rw [← hW2]; (repeat (first | exact Fr.refl _ _ | assumption | with_reducible apply Fr.alloc | with_reducible apply Fr.drew | with_reducible refine Fr.setB ?_ _ _ (.inr (by first | omega | (simp only [gz]; omega))) | with_reducible refine Fr.setB ?_ _ _ (.inl (by first | assumption | simp)) | with_reducible refine Fr.trans' ?_ (by assumption)))
    have hz3 : w3.heap.size = w2.heap.size + 1 := by rw [← hW2]; simp only [gz]
    have hx3 : w3.heap[w2.heap.size]? = some (.cells ([.int .i64 r'.n, .slice r'.a r'.l r'.c] : List Value).toArray 47 (0, 0)) := by rw [← hW2]; exact get_alloc_new _ _
    clear hW2
    have cw3 := cur w3
    have hlt3 := lt_of_get _ _ hx3
    have hob3 := hf3.getN hob2
    refine draw_intro [] ?_
    simp (maxSteps := 4000000) (disch := (first | assumption | exact List.not_mem_nil | exact Fr.refl _ _ | ((repeat (first | assumption | apply cur_alloc | apply cur_setB | apply cur_drew | apply cur_drewN)); done) | omega | (simp only [gz, Value.cells, oneC]; first | done | omega) | ((simp only [List.mem_cons, List.not_mem_nil, or_false, gz]); omega) | rfl)) only [↓gsd, gs, ev, Nat.reduceAdd, Nat.reduceEqDiff, oneC, Value.cells, Option.isNone, gt, ↓hk5, e1, e5, e7, e8, e9, e10, hvg, hvb2, k0, k1, Int.toNat_natCast, hob3, hx3, hc2, hc3, dn, dl]
    refine hk' _ _ ⟨k + 1, by omega, ?_⟩ ?_
    · have ek : ((a + (k + 1) : Nat) : Int) = ((a + k : Nat) : Int) + 1 := by omega
      simp (maxSteps := 4000000) (disch := (first | assumption | exact List.not_mem_nil | exact Fr.refl _ _ | ((repeat (first | assumption | apply cur_alloc | apply cur_setB | apply cur_drew | apply cur_drewN)); done) | omega | (simp only [gz, Value.cells, oneC]; first | done | omega) | ((simp only [List.mem_cons, List.not_mem_nil, or_false, gz]); omega) | rfl)) only [↓gsd, gs, ev, Nat.reduceAdd, Nat.reduceEqDiff, oneC, Value.cells, Option.isNone, e1, e5, e7, e8, e9, e10, hvg, ek, Int.natCast_add k 1, Int.natCast_one]
      exact ((hf.trans' hf2).trans' hf3).drew
    · simp (maxSteps := 4000000) (disch := (first | assumption | exact List.not_mem_nil | exact Fr.refl _ _ | ((repeat (first | assumption | apply cur_alloc | apply cur_setB | apply cur_drew | apply cur_drewN)); done) | omega | (simp only [gz, Value.cells, oneC]; first | done | omega) | ((simp only [List.mem_cons, List.not_mem_nil, or_false, gz]); omega) | rfl)) only [↓gsd, gs, ev, Nat.reduceAdd, Nat.reduceEqDiff, oneC, Value.cells, Option.isNone, e10, numOf, Int.toNat_natCast, k3]; omega
  · have dk : decide ((k : Int) < (rs.length : Int)) = false := decide_eq_false (by omega)
    have : k = rs.length := by omega
    subst this
    simp (maxSteps := 4000000) (disch := (first | assumption | exact List.not_mem_nil | exact Fr.refl _ _ | ((repeat (first | assumption | apply cur_alloc | apply cur_setB | apply cur_drew | apply cur_drewN)); done) | omega | (simp only [gz, Value.cells, oneC]; first | done | omega) | ((simp only [List.mem_cons, List.not_mem_nil, or_false, gz]); omega) | rfl)) only [↓gsd, gs, ev, Nat.reduceAdd, Nat.reduceEqDiff, oneC, Value.cells, Option.isNone, gt, ↓hk5, e1, e5, e7, e8, e9, e10, hvg, dk]
    exact hQ _ _ (by simp (maxSteps := 4000000) (disch := (first | assumption | exact List.not_mem_nil | exact Fr.refl _ _ | ((repeat (first | assumption | apply cur_alloc | apply cur_setB | apply cur_drew | apply cur_drewN)); done) | omega | (simp only [gz, Value.cells, oneC]; first | done | omega) | ((simp only [List.mem_cons, List.not_mem_nil, or_false, gz]); omega) | rfl)) only [↓gsd, gs, ev, Nat.reduceAdd, Nat.reduceEqDiff, oneC, Value.cells, Option.isNone, e1]) (by simp (maxSteps := 4000000) (disch := (first | assumption | exact List.not_mem_nil | exact Fr.refl _ _ | ((repeat (first | assumption | apply cur_alloc | apply cur_setB | apply cur_drew | apply cur_drewN)); done) | omega | (simp only [gz, Value.cells, oneC]; first | done | omega) | ((simp only [List.mem_cons, List.not_mem_nil, or_false, gz]); omega) | rfl)) only [↓gsd, gs, ev, Nat.reduceAdd, Nat.reduceEqDiff, oneC, Value.cells, Option.isNone, e5]) (by simp (maxSteps := 4000000) (disch := (first | assumption | exact List.not_mem_nil | exact Fr.refl _ _ | ((repeat (first | assumption | apply cur_alloc | apply cur_setB | apply cur_drew | apply cur_drewN)); done) | omega | (simp only [gz, Value.cells, oneC]; first | done | omega) | ((simp only [List.mem_cons, List.not_mem_nil, or_false, gz]); omega) | rfl)) only [↓gsd, gs, ev, Nat.reduceAdd, Nat.reduceEqDiff, oneC, Value.cells, Option.isNone, e7, hrl]) (by simp (maxSteps := 4000000) (disch := (first | assumption | exact List.not_mem_nil | exact Fr.refl _ _ | ((repeat (first | assumption | apply cur_alloc | apply cur_setB | apply cur_drew | apply cur_drewN)); done) | omega | (simp only [gz, Value.cells, oneC]; first | done | omega) | ((simp only [List.mem_cons, List.not_mem_nil, or_false, gz]); omega) | rfl)) only [↓gsd, gs, ev, Nat.reduceAdd, Nat.reduceEqDiff, oneC, Value.cells, Option.isNone, e8]) hf
set_option maxHeartbeats 16000000 in
theorem pieces_law {w : World} {lv pv : Value} {vs : List Value} {kss : List Ks} {bs : List Int} {K : Value → World → Prop} (h : ListS w lv vs kss) (hl : kss.length ≤ maxLen) (hp : SlOf 1 encB w pv bs) (hpl : bs.length ≤ maxLen) (hpb : ∀ b ∈ bs, 0 ≤ b ∧ b ≤ 255)
    (hK : ∀ w', Fr [] w w' → K (.bool true) w') : CallsN Try.prog 5 [lv, pv] w K := by
  have cw := cur w
  have hvl := h.len
  unfold maxLen at hl hpl
  obtain ⟨la, lc, hlv⟩ := h.sl.form
  obtain ⟨pa, pc, hpv⟩ := hp.form
  refine call5 ?_
  simp (maxSteps := 4000000) (disch := (first | assumption | exact List.not_mem_nil | exact Fr.refl _ _ | ((repeat (first | assumption | apply cur_alloc | apply cur_setB | apply cur_drew | apply cur_drewN)); done) | omega | (simp only [gz, Value.cells, oneC]; first | done | omega) | ((simp only [List.mem_cons, List.not_mem_nil, or_false, gz]); omega) | rfl)) only [↓gsd, gs, ev, Nat.reduceAdd, Nat.reduceEqDiff, oneC, Value.cells, Option.isNone, gt, ↓hk5]
  refine fixed_spec fun w1 hf1 => ?_
  have cw1 := cur w1
  simp (maxSteps := 4000000) (disch := (first | assumption | exact List.not_mem_nil | exact Fr.refl _ _ | ((repeat (first | assumption | apply cur_alloc | apply cur_setB | apply cur_drew | apply cur_drewN)); done) | omega | (simp only [gz, Value.cells, oneC]; first | done | omega) | ((simp only [List.mem_cons, List.not_mem_nil, or_false, gz]); omega) | rfl)) only [↓gsd, gs, ev, Nat.reduceAdd, Nat.reduceEqDiff, oneC, Value.cells, Option.isNone, gt, ↓hk5]
  refine new_log fun lb w2 hf2 hlb h2 => ?_
  have cw2 := cur w2
  have hz1 := hf1.size
  have hz2 := hf2.size
  simp (maxSteps := 4000000) (disch := (first | assumption | exact List.not_mem_nil | exact Fr.refl _ _ | ((repeat (first | assumption | apply cur_alloc | apply cur_setB | apply cur_drew | apply cur_drewN)); done) | omega | (simp only [gz, Value.cells, oneC]; first | done | omega) | ((simp only [List.mem_cons, List.not_mem_nil, or_false, gz]); omega) | rfl)) only [↓gsd, gs, ev, Nat.reduceAdd, Nat.reduceEqDiff, oneC, Value.cells, Option.isNone, gt, ↓hk5]
  refine loop_intro (fun e w' => ∃ (i : Nat) (L : List Ks) (Wr Rd : List Nat), i ≤ vs.length ∧ e 0 = lv ∧ e 1 = pv ∧ e 5 = .pointer (some ⟨lb, 0, none⟩) ∧ e 6 = .int .i64 i ∧ LogAt w' lb Wr Rd L ∧ (∀ x ∈ Wr, w.heap.size ≤ x) ∧ Fr [] w w')
    (fun e _ => vs.length - (numOf (e 6)).toNat) ?_ ?_
  · refine ⟨0, [], [lb], [], Nat.zero_le _, ?_⟩
    simp (maxSteps := 4000000) (disch := (first | assumption | exact List.not_mem_nil | exact Fr.refl _ _ | ((repeat (first | assumption | apply cur_alloc | apply cur_setB | apply cur_drew | apply cur_drewN)); done) | omega | (simp only [gz, Value.cells, oneC]; first | done | omega) | ((simp only [List.mem_cons, List.not_mem_nil, or_false, gz]); omega) | rfl)) only [↓gsd, gs, ev, Nat.reduceAdd, Nat.reduceEqDiff, oneC, Value.cells, Option.isNone, Int.natCast_zero]
    exact ⟨h2, fun x hx => by simp at hx; omega, hf1.trans' hf2⟩
  rintro e w3 k ⟨i, L, Wr, Rd, hi, e0, e1, e5, e6, h3, hW, hfr⟩ hk
  have cw3 := cur w3
  by_cases hil : i < vs.length
  · have d : decide ((i : Int) < (vs.length : Int)) = true := decide_eq_true (by omega)
    have i0 : (0 : Int) ≤ (i : Int) := by omega
    have i1 : (i : Int) < (vs.length : Int) := by omega
    obtain ⟨x, hx⟩ : ∃ x, vs[i]? = some x := ⟨vs[i], List.getElem?_eq_getElem hil⟩
    obtain ⟨ks, hks⟩ : ∃ ks, kss[i]? = some ks := ⟨kss[i]'(by omega), List.getElem?_eq_getElem (by omega)⟩
    obtain ⟨hsx, hm⟩ := h.at_ i x ks hx hks
    unfold maxLen at hm
    obtain ⟨b, off, cap, o, hvb, hob, hbl, _, hcell⟩ := (h.sl.frN hfr).read one1_len i x hx
    have hc0 := fun orig K => hcell 0 x orig K rfl
    simp only [Nat.add_zero, Nat.mul_one] at hc0
    simp (maxSteps := 4000000) (disch := (first | assumption | exact List.not_mem_nil | exact Fr.refl _ _ | ((repeat (first | assumption | apply cur_alloc | apply cur_setB | apply cur_drew | apply cur_drewN)); done) | omega | (simp only [gz, Value.cells, oneC]; first | done | omega) | ((simp only [List.mem_cons, List.not_mem_nil, or_false, gz]); omega) | rfl)) only [↓gsd, gs, ev, Nat.reduceAdd, Nat.reduceEqDiff, oneC, Value.cells, Option.isNone, gt, ↓hk5, e0, e1, e5, e6, d, hvb, i0, i1, Int.toNat_natCast, Nat.mul_one, hob, hc0]
    refine append_log h3 (hsx.frN hfr) (by omega) fun w4 Wr' Rd' h4 hf4 hW' hRd' => ?_
    have cw4 := cur w4
    have hz4 := hf4.size
    have hz3 := hfr.size
    have e3 : ((i : Int) + 1).toNat = i + 1 := by omega
    simp (maxSteps := 4000000) (disch := (first | assumption | exact List.not_mem_nil | exact Fr.refl _ _ | ((repeat (first | assumption | apply cur_alloc | apply cur_setB | apply cur_drew | apply cur_drewN)); done) | omega | (simp only [gz, Value.cells, oneC]; first | done | omega) | ((simp only [List.mem_cons, List.not_mem_nil, or_false, gz]); omega) | rfl)) only [↓gsd, gs, ev, Nat.reduceAdd, Nat.reduceEqDiff, oneC, Value.cells, Option.isNone, gt, ↓hk5, e0, e1, e5, e6]
    refine hk _ _ ⟨i + 1, (appL L ks).2, Wr', Rd', by omega, ?_⟩ ?_
    · simp (maxSteps := 4000000) (disch := (first | assumption | exact List.not_mem_nil | exact Fr.refl _ _ | ((repeat (first | assumption | apply cur_alloc | apply cur_setB | apply cur_drew | apply cur_drewN)); done) | omega | (simp only [gz, Value.cells, oneC]; first | done | omega) | ((simp only [List.mem_cons, List.not_mem_nil, or_false, gz]); omega) | rfl)) only [↓gsd, gs, ev, Nat.reduceAdd, Nat.reduceEqDiff, oneC, Value.cells, Option.isNone, e0, e1, e5, e6, hvb, Int.natCast_add, Int.natCast_one]
      exact ⟨h4, fun x hx => by
        rcases hW' x hx with q | q
        · exact hW x q
        · omega, hfr.trans hf4 fun x hx => .inr (hW x hx)⟩
    · simp (maxSteps := 4000000) (disch := (first | assumption | exact List.not_mem_nil | exact Fr.refl _ _ | ((repeat (first | assumption | apply cur_alloc | apply cur_setB | apply cur_drew | apply cur_drewN)); done) | omega | (simp only [gz, Value.cells, oneC]; first | done | omega) | ((simp only [List.mem_cons, List.not_mem_nil, or_false, gz]); omega) | rfl)) only [↓gsd, gs, ev, Nat.reduceAdd, Nat.reduceEqDiff, oneC, Value.cells, Option.isNone, e6, numOf, Int.toNat_natCast, e3]; omega
  · have d : decide ((i : Int) < (vs.length : Int)) = false := decide_eq_false (by omega)
    have hLl := h3.len
    simp (maxSteps := 4000000) (disch := (first | assumption | exact List.not_mem_nil | exact Fr.refl _ _ | ((repeat (first | assumption | apply cur_alloc | apply cur_setB | apply cur_drew | apply cur_drewN)); done) | omega | (simp only [gz, Value.cells, oneC]; first | done | omega) | ((simp only [List.mem_cons, List.not_mem_nil, or_false, gz]); omega) | rfl)) only [↓gsd, gs, ev, Nat.reduceAdd, Nat.reduceEqDiff, oneC, Value.cells, Option.isNone, gt, ↓hk5, e0, e1, e5, e6, hlv, d]
    refine loop_intro (fun e w' => ∃ (j a : Nat), j ≤ bs.length ∧ a ≤ L.length ∧ e 1 = pv ∧ e 5 = .pointer (some ⟨lb, 0, none⟩) ∧ e 7 = .int .i64 a ∧ e 8 = .int .i64 j ∧ Fr [] w3 w')
      (fun e _ => bs.length - (numOf (e 8)).toNat) ?_ ?_
    · refine ⟨0, 0, Nat.zero_le _, Nat.zero_le _, ?_⟩
      simp (maxSteps := 4000000) (disch := (first | assumption | exact List.not_mem_nil | exact Fr.refl _ _ | ((repeat (first | assumption | apply cur_alloc | apply cur_setB | apply cur_drew | apply cur_drewN)); done) | omega | (simp only [gz, Value.cells, oneC]; first | done | omega) | ((simp only [List.mem_cons, List.not_mem_nil, or_false, gz]); omega) | rfl)) only [↓gsd, gs, ev, Nat.reduceAdd, Nat.reduceEqDiff, oneC, Value.cells, Option.isNone, e1, e5, Int.natCast_zero]
      exact Fr.refl _ _
    rintro e w5 k' ⟨j, a, hj, ha, e1, e5, e7, e8, hf5⟩ hk'
    have cw5 := cur w5
    have hz5 := hf5.size
    have h5 := h3.frN hf5
    by_cases hjl : j < bs.length
    · have dj : decide ((j : Int) < (bs.length : Int)) = true := decide_eq_true (by omega)
      have j0 : (0 : Int) ≤ (j : Int) := by omega
      have j1 : (j : Int) < (bs.length : Int) := by omega
      have j3 : ((j : Int) + 1).toNat = j + 1 := by omega
      obtain ⟨p, hpj⟩ : ∃ p, bs[j]? = some p := ⟨bs[j], List.getElem?_eq_getElem hjl⟩
      have hpr := hpb p (List.mem_of_getElem? hpj)
      obtain ⟨b2, off2, cap2, o2, hvb2, hob2, hbl2, _, hcell2⟩ := ((hp.frN hfr).frN hf5).read encB_len j p hpj
      have hc2 := fun orig K => hcell2 0 (.int .u8 p) orig K rfl
      simp only [Nat.add_zero, Nat.mul_one] at hc2
      have wp : IntKind.i64.wrap p = p := wrap64 (by omega) (by omega)
      have wa : IntKind.i64.wrap ((a : Int) + 1) = (a : Int) + 1 := wrap64 (by omega) (by omega)
      rw [hpv] at hvb2
      simp (maxSteps := 4000000) (disch := (first | assumption | exact List.not_mem_nil | exact Fr.refl _ _ | ((repeat (first | assumption | apply cur_alloc | apply cur_setB | apply cur_drew | apply cur_drewN)); done) | omega | (simp only [gz, Value.cells, oneC]; first | done | omega) | ((simp only [List.mem_cons, List.not_mem_nil, or_false, gz]); omega) | rfl)) only [↓gsd, gs, ev, Nat.reduceAdd, Nat.reduceEqDiff, oneC, Value.cells, Option.isNone, gt, ↓hk5, e1, e5, e7, e8, hpv, dj, hvb2, j0, j1, Int.toNat_natCast, Nat.mul_one, hob2, hc2, wp, wa]
      refine from_log h5 fun vg w6 hrg hf6 => ?_
      have cw6 := cur w6
      have hz6 := hf6.size
      obtain ⟨ga, gc, hvg⟩ := hrg.form
      have hgl := fromL_len L ((a : Int) + 1) p
      have ea : ((a : Int) + 1 - 1).toNat = a := by omega
      rw [ea] at hgl
      obtain ⟨xs, hxs⟩ : ∃ xs, xs = fromL L ((a : Int) + 1) p := ⟨_, rfl⟩
      rw [← hxs] at hrg hvg hgl
      have hob6 := hf6.getN hob2
      have hc1 : decide (p < (xs.length : Int)) = false := decide_eq_false (by omega)
      have hEnd : ∀ (e' : Env) (w' : World), e' 1 = pv → e' 5 = .pointer (some ⟨lb, 0, none⟩) → e' 7 = .int .i64 ((a + xs.length : Nat) : Int) → e' 8 = .int .i64 j → Fr [] w6 w' → W Try.prog 111 V5 c5_12 (seqQ k' (blockQ 2 (seqQ (fun e w => W Try.prog 111 V5 c5_6 (retQ Try.prog [.tmp 4] K) e w) (retQ Try.prog [.tmp 4] K)))) e' w' := by
        intro e' w' q1 q5 q7 q8 hf'
        have cw' := cur w'
        simp (maxSteps := 4000000) (disch := (first | assumption | exact List.not_mem_nil | exact Fr.refl _ _ | ((repeat (first | assumption | apply cur_alloc | apply cur_setB | apply cur_drew | apply cur_drewN)); done) | omega | (simp only [gz, Value.cells, oneC]; first | done | omega) | ((simp only [List.mem_cons, List.not_mem_nil, or_false, gz]); omega) | rfl)) only [↓gsd, gs, ev, Nat.reduceAdd, Nat.reduceEqDiff, oneC, Value.cells, Option.isNone, gt, ↓hk5, q1, q5, q7, q8]
        refine hk' _ _ ⟨j + 1, a + xs.length, by omega, by omega, ?_⟩ ?_
        · simp (maxSteps := 4000000) (disch := (first | assumption | exact List.not_mem_nil | exact Fr.refl _ _ | ((repeat (first | assumption | apply cur_alloc | apply cur_setB | apply cur_drew | apply cur_drewN)); done) | omega | (simp only [gz, Value.cells, oneC]; first | done | omega) | ((simp only [List.mem_cons, List.not_mem_nil, or_false, gz]); omega) | rfl)) only [↓gsd, gs, ev, Nat.reduceAdd, Nat.reduceEqDiff, oneC, Value.cells, Option.isNone, q1, q5, q7, q8, Int.natCast_add, Int.natCast_one]
          exact (hf5.trans' hf6).trans' hf'
        · simp (maxSteps := 4000000) (disch := (first | assumption | exact List.not_mem_nil | exact Fr.refl _ _ | ((repeat (first | assumption | apply cur_alloc | apply cur_setB | apply cur_drew | apply cur_drewN)); done) | omega | (simp only [gz, Value.cells, oneC]; first | done | omega) | ((simp only [List.mem_cons, List.not_mem_nil, or_false, gz]); omega) | rfl)) only [↓gsd, gs, ev, Nat.reduceAdd, Nat.reduceEqDiff, oneC, Value.cells, Option.isNone, q8, e8, numOf, Int.toNat_natCast, j3]; omega
      by_cases c2 : (xs.length : Int) < p
      · have hc3 : decide ((xs.length : Int) < p) = true := decide_eq_true c2
        have wl : IntKind.i64.wrap ((a : Int) + xs.length) = (a : Int) + xs.length := wrap64 (by omega) (by omega)
        have dl : decide ((a : Int) + xs.length = (L.length : Int)) = true := decide_eq_true (by omega)
        simp (maxSteps := 4000000) (disch := (first | assumption | exact List.not_mem_nil | exact Fr.refl _ _ | ((repeat (first | assumption | apply cur_alloc | apply cur_setB | apply cur_drew | apply cur_drewN)); done) | omega | (simp only [gz, Value.cells, oneC]; first | done | omega) | ((simp only [List.mem_cons, List.not_mem_nil, or_false, gz]); omega) | rfl)) only [↓gsd, gs, ev, Nat.reduceAdd, Nat.reduceEqDiff, oneC, Value.cells, Option.isNone, gt, ↓hk5, e1, e5, e7, e8, hvg, hpv, hvb2, j0, j1, Int.toNat_natCast, Nat.mul_one, hob6, hc2, wp, wa, hc1, hc3, wl]
        refine last_spec (h5.frN hf6) ?_
        simp (maxSteps := 4000000) (disch := (first | assumption | exact List.not_mem_nil | exact Fr.refl _ _ | ((repeat (first | assumption | apply cur_alloc | apply cur_setB | apply cur_drew | apply cur_drewN)); done) | omega | (simp only [gz, Value.cells, oneC]; first | done | omega) | ((simp only [List.mem_cons, List.not_mem_nil, or_false, gz]); omega) | rfl)) only [↓gsd, gs, ev, Nat.reduceAdd, Nat.reduceEqDiff, oneC, Value.cells, Option.isNone, gt, ↓o5_0_eq, ↓o5_3_eq, ↓o5_8_eq, ↓o5_22_eq, ↓c5_6_s, ↓o5_9_eq, ↓o5_11_eq, ↓c5_12_s, ↓o5_12_eq, ↓o5_15_eq, ↓o5_17_eq, ↓c5_21_s, ↓o5_18_eq, ↓o5_19_eq, ↓o5_20_eq, ↓o5_21_eq, ↓c5_27_s, ↓c5_26_s, ↓c5_25_s, ↓c5_24_s, ↓c5_23_s, ↓c5_22_s, ↓c5_20_s, ↓o5_16_eq, ↓c5_29_s, ↓c5_28_s, ↓c5_19_s, ↓c5_18_s, ↓c5_17_s, ↓o5_13_eq, ↓o5_14_eq, ↓c5_32_s, ↓c5_31_s, ↓c5_30_s, ↓c5_15_s, ↓c5_14_s, ↓c5_13_s, ↓c5_11_s, ↓o5_10_eq, ↓c5_34_s, ↓c5_33_s, ↓c5_10_s, ↓c5_9_s, ↓c5_8_s, ↓c5_7_s, ↓c5_5_s, ↓c5_4_s, ↓o5_4_eq, ↓o5_6_eq, ↓c5_40_s, ↓o5_7_eq, ↓c5_42_s, ↓c5_41_s, ↓c5_39_s, ↓o5_5_eq, ↓c5_44_s, ↓c5_43_s, ↓c5_38_s, ↓c5_37_s, ↓c5_36_s, ↓c5_35_s, ↓c5_3_s, ↓c5_2_s, ↓o5_1_eq, ↓o5_2_eq, ↓c5_47_s, ↓c5_46_s, ↓c5_45_s, ↓c5_1_s, ↓c5_s, e1, e5, e7, e8, hvg, hpv, hvb2, dl]
        refine pieces_inner (j := j) (pv := pv) hxs (h5.frN hf6) hrg ha (by simp (maxSteps := 4000000) (disch := (first | assumption | exact List.not_mem_nil | exact Fr.refl _ _ | ((repeat (first | assumption | apply cur_alloc | apply cur_setB | apply cur_drew | apply cur_drewN)); done) | omega | (simp only [gz, Value.cells, oneC]; first | done | omega) | ((simp only [List.mem_cons, List.not_mem_nil, or_false, gz]); omega) | rfl)) only [↓gsd, gs, ev, Nat.reduceAdd, Nat.reduceEqDiff, oneC, Value.cells, Option.isNone, e1, hpv]) (by simp (maxSteps := 4000000) (disch := (first | assumption | exact List.not_mem_nil | exact Fr.refl _ _ | ((repeat (first | assumption | apply cur_alloc | apply cur_setB | apply cur_drew | apply cur_drewN)); done) | omega | (simp only [gz, Value.cells, oneC]; first | done | omega) | ((simp only [List.mem_cons, List.not_mem_nil, or_false, gz]); omega) | rfl)) only [↓gsd, gs, ev, Nat.reduceAdd, Nat.reduceEqDiff, oneC, Value.cells, Option.isNone, e5]) (by simp (maxSteps := 4000000) (disch := (first | assumption | exact List.not_mem_nil | exact Fr.refl _ _ | ((repeat (first | assumption | apply cur_alloc | apply cur_setB | apply cur_drew | apply cur_drewN)); done) | omega | (simp only [gz, Value.cells, oneC]; first | done | omega) | ((simp only [List.mem_cons, List.not_mem_nil, or_false, gz]); omega) | rfl)) only [↓gsd, gs, ev, Nat.reduceAdd, Nat.reduceEqDiff, oneC, Value.cells, Option.isNone, e7]) (by simp (maxSteps := 4000000) (disch := (first | assumption | exact List.not_mem_nil | exact Fr.refl _ _ | ((repeat (first | assumption | apply cur_alloc | apply cur_setB | apply cur_drew | apply cur_drewN)); done) | omega | (simp only [gz, Value.cells, oneC]; first | done | omega) | ((simp only [List.mem_cons, List.not_mem_nil, or_false, gz]); omega) | rfl)) only [↓gsd, gs, ev, Nat.reduceAdd, Nat.reduceEqDiff, oneC, Value.cells, Option.isNone, e8]) (by simp (maxSteps := 4000000) (disch := (first | assumption | exact List.not_mem_nil | exact Fr.refl _ _ | ((repeat (first | assumption | apply cur_alloc | apply cur_setB | apply cur_drew | apply cur_drewN)); done) | omega | (simp only [gz, Value.cells, oneC]; first | done | omega) | ((simp only [List.mem_cons, List.not_mem_nil, or_false, gz]); omega) | rfl)) only [↓gsd, gs, ev, Nat.reduceAdd, Nat.reduceEqDiff, oneC, Value.cells, Option.isNone, hvg]) fun e' w' q1 q5 q7 q8 hf' => ?_
        have cw' := cur w'
        simp (maxSteps := 4000000) (disch := (first | assumption | exact List.not_mem_nil | exact Fr.refl _ _ | ((repeat (first | assumption | apply cur_alloc | apply cur_setB | apply cur_drew | apply cur_drewN)); done) | omega | (simp only [gz, Value.cells, oneC]; first | done | omega) | ((simp only [List.mem_cons, List.not_mem_nil, or_false, gz]); omega) | rfl)) only [↓gsd, gs, ev, Nat.reduceAdd, Nat.reduceEqDiff, oneC, Value.cells, Option.isNone]
        exact hEnd e' w' q1 q5 q7 q8 hf'
      · have hc3 : decide ((xs.length : Int) < p) = false := decide_eq_false c2
        simp (maxSteps := 4000000) (disch := (first | assumption | exact List.not_mem_nil | exact Fr.refl _ _ | ((repeat (first | assumption | apply cur_alloc | apply cur_setB | apply cur_drew | apply cur_drewN)); done) | omega | (simp only [gz, Value.cells, oneC]; first | done | omega) | ((simp only [List.mem_cons, List.not_mem_nil, or_false, gz]); omega) | rfl)) only [↓gsd, gs, ev, Nat.reduceAdd, Nat.reduceEqDiff, oneC, Value.cells, Option.isNone, gt, ↓o5_0_eq, ↓o5_3_eq, ↓o5_8_eq, ↓o5_22_eq, ↓c5_6_s, ↓o5_9_eq, ↓o5_11_eq, ↓c5_12_s, ↓o5_12_eq, ↓o5_15_eq, ↓o5_17_eq, ↓c5_21_s, ↓o5_18_eq, ↓o5_19_eq, ↓o5_20_eq, ↓o5_21_eq, ↓c5_27_s, ↓c5_26_s, ↓c5_25_s, ↓c5_24_s, ↓c5_23_s, ↓c5_22_s, ↓c5_20_s, ↓o5_16_eq, ↓c5_29_s, ↓c5_28_s, ↓c5_19_s, ↓c5_18_s, ↓c5_17_s, ↓o5_13_eq, ↓o5_14_eq, ↓c5_32_s, ↓c5_31_s, ↓c5_30_s, ↓c5_15_s, ↓c5_14_s, ↓c5_13_s, ↓c5_11_s, ↓o5_10_eq, ↓c5_34_s, ↓c5_33_s, ↓c5_10_s, ↓c5_9_s, ↓c5_8_s, ↓c5_7_s, ↓c5_5_s, ↓c5_4_s, ↓o5_4_eq, ↓o5_6_eq, ↓c5_40_s, ↓o5_7_eq, ↓c5_42_s, ↓c5_41_s, ↓c5_39_s, ↓o5_5_eq, ↓c5_44_s, ↓c5_43_s, ↓c5_38_s, ↓c5_37_s, ↓c5_36_s, ↓c5_35_s, ↓c5_3_s, ↓c5_2_s, ↓o5_1_eq, ↓o5_2_eq, ↓c5_47_s, ↓c5_46_s, ↓c5_45_s, ↓c5_1_s, ↓c5_s, e1, e5, e7, e8, hvg, hpv, hvb2, j0, j1, Int.toNat_natCast, Nat.mul_one, hob6, hc2, wp, wa, hc1, hc3]
        refine pieces_inner (j := j) (pv := pv) hxs (h5.frN hf6) hrg ha (by simp (maxSteps := 4000000) (disch := (first | assumption | exact List.not_mem_nil | exact Fr.refl _ _ | ((repeat (first | assumption | apply cur_alloc | apply cur_setB | apply cur_drew | apply cur_drewN)); done) | omega | (simp only [gz, Value.cells, oneC]; first | done | omega) | ((simp only [List.mem_cons, List.not_mem_nil, or_false, gz]); omega) | rfl)) only [↓gsd, gs, ev, Nat.reduceAdd, Nat.reduceEqDiff, oneC, Value.cells, Option.isNone, e1, hpv]) (by simp (maxSteps := 4000000) (disch := (first | assumption | exact List.not_mem_nil | exact Fr.refl _ _ | ((repeat (first | assumption | apply cur_alloc | apply cur_setB | apply cur_drew | apply cur_drewN)); done) | omega | (simp only [gz, Value.cells, oneC]; first | done | omega) | ((simp only [List.mem_cons, List.not_mem_nil, or_false, gz]); omega) | rfl)) only [↓gsd, gs, ev, Nat.reduceAdd, Nat.reduceEqDiff, oneC, Value.cells, Option.isNone, e5]) (by simp (maxSteps := 4000000) (disch := (first | assumption | exact List.not_mem_nil | exact Fr.refl _ _ | ((repeat (first | assumption | apply cur_alloc | apply cur_setB | apply cur_drew | apply cur_drewN)); done) | omega | (simp only [gz, Value.cells, oneC]; first | done | omega) | ((simp only [List.mem_cons, List.not_mem_nil, or_false, gz]); omega) | rfl)) only [↓gsd, gs, ev, Nat.reduceAdd, Nat.reduceEqDiff, oneC, Value.cells, Option.isNone, e7]) (by simp (maxSteps := 4000000) (disch := (first | assumption | exact List.not_mem_nil | exact Fr.refl _ _ | ((repeat (first | assumption | apply cur_alloc | apply cur_setB | apply cur_drew | apply cur_drewN)); done) | omega | (simp only [gz, Value.cells, oneC]; first | done | omega) | ((simp only [List.mem_cons, List.not_mem_nil, or_false, gz]); omega) | rfl)) only [↓gsd, gs, ev, Nat.reduceAdd, Nat.reduceEqDiff, oneC, Value.cells, Option.isNone, e8]) (by simp (maxSteps := 4000000) (disch := (first | assumption | exact List.not_mem_nil | exact Fr.refl _ _ | ((repeat (first | assumption | apply cur_alloc | apply cur_setB | apply cur_drew | apply cur_drewN)); done) | omega | (simp only [gz, Value.cells, oneC]; first | done | omega) | ((simp only [List.mem_cons, List.not_mem_nil, or_false, gz]); omega) | rfl)) only [↓gsd, gs, ev, Nat.reduceAdd, Nat.reduceEqDiff, oneC, Value.cells, Option.isNone, hvg]) fun e' w' q1 q5 q7 q8 hf' => ?_
        have cw' := cur w'
        simp (maxSteps := 4000000) (disch := (first | assumption | exact List.not_mem_nil | exact Fr.refl _ _ | ((repeat (first | assumption | apply cur_alloc | apply cur_setB | apply cur_drew | apply cur_drewN)); done) | omega | (simp only [gz, Value.cells, oneC]; first | done | omega) | ((simp only [List.mem_cons, List.not_mem_nil, or_false, gz]); omega) | rfl)) only [↓gsd, gs, ev, Nat.reduceAdd, Nat.reduceEqDiff, oneC, Value.cells, Option.isNone]
        exact hEnd e' w' q1 q5 q7 q8 hf'
    · have dj : decide ((j : Int) < (bs.length : Int)) = false := decide_eq_false (by omega)
      have dl : decide ((a : Int) ≤ (L.length : Int)) = true := decide_eq_true (by omega)
      simp (maxSteps := 4000000) (disch := (first | assumption | exact List.not_mem_nil | exact Fr.refl _ _ | ((repeat (first | assumption | apply cur_alloc | apply cur_setB | apply cur_drew | apply cur_drewN)); done) | omega | (simp only [gz, Value.cells, oneC]; first | done | omega) | ((simp only [List.mem_cons, List.not_mem_nil, or_false, gz]); omega) | rfl)) only [↓gsd, gs, ev, Nat.reduceAdd, Nat.reduceEqDiff, oneC, Value.cells, Option.isNone, gt, ↓hk5, e1, e5, e7, e8, hpv, dj]
      refine last_spec h5 ?_
      simp (maxSteps := 4000000) (disch := (first | assumption | exact List.not_mem_nil | exact Fr.refl _ _ | ((repeat (first | assumption | apply cur_alloc | apply cur_setB | apply cur_drew | apply cur_drewN)); done) | omega | (simp only [gz, Value.cells, oneC]; first | done | omega) | ((simp only [List.mem_cons, List.not_mem_nil, or_false, gz]); omega) | rfl)) only [↓gsd, gs, ev, Nat.reduceAdd, Nat.reduceEqDiff, oneC, Value.cells, Option.isNone, gt, ↓hk5, e1, e5, e7, e8, hpv, dj, dl]
      exact hK _ (hfr.trans' hf5)
end Go.Proofs.Ytenokheiindfkab
