/- From once more: the keys of the records lie apart. -/
import Derived.Test.YtenokheiindfkabE5
set_option linter.unusedVariables false
set_option linter.unusedSimpArgs false
set_option maxRecDepth 10000
namespace Go.Proofs.Ytenokheiindfkab
open Go.VW
/-- Records of which each one's keys lie in a block of their own, at B or above. -/
structure RcsD (w : World) (B : Nat) (v : Value) (xs : List (Int × Ks)) (rs : List Rc) : Prop where
  own : Own 2 47 w v rs.length (cellsOf encRc rs)
  len : rs.length = xs.length
  at_ : ∀ (i : Nat) r x, rs[i]? = some r → xs[i]? = some x → RcIs w (fun b => B ≤ b) r x
  blk : ∀ b, v.ownBlock = some b → B ≤ b
  apart : ∀ (i j : Nat) r r', i < j → rs[i]? = some r → rs[j]? = some r' → ∀ b, r.kv.ownBlock = some b → r'.kv.ownBlock ≠ some b
theorem RcsD.frN {w w' : World} {B : Nat} {v : Value} {xs : List (Int × Ks)} {rs : List Rc} (h : RcsD w B v xs rs) (hf : Fr [] w w') : RcsD w' B v xs rs :=
  ⟨h.own.frN hf, h.len, fun i r x hr hx => (h.at_ i r x hr hx).frN hf, h.blk, h.apart⟩
theorem RcsD.app {w : World} {B : Nat} {v : Value} {xs : List (Int × Ks)} {rs : List Rc} (h : RcsD w B v xs rs) {r : Rc} {x : Int × Ks} (hr : RcIs w (fun b => B ≤ b) r x) (hlen : xs.length + 1 ≤ 2000000000000) (hB : B ≤ w.heap.size)
    (hap : ∀ (i : Nat) r', rs[i]? = some r' → ∀ b, r'.kv.ownBlock = some b → r.kv.ownBlock ≠ some b) {a : Addr} (hx : Sl 2 w (.slice (some a) 1 1) 1 (encRc r)) :
    ∃ v' w', (Builtin.append_ #[36, 36] 36 #[v, .slice (some a) 1 1]).run Try.prog w = .ok v' w' ∧ RcsD w' B v' (xs ++ [x]) (rs ++ [r]) ∧ Fr (blkL v) w w' := by
  obtain ⟨h1, h2, h3, h4, h5⟩ := h
  obtain ⟨v4, w4, hr4, hown4, hf4, hbk⟩ := ap36 (ty := 36) h1 hx (by rfl) (by omega)
  have hK : ∀ {r : Rc} {x : Int × Ks}, RcIs w (fun b => B ≤ b) r x → RcIs w4 (fun b => B ≤ b) r x := fun hq => ⟨hq.1, hq.2.1.fr hf4 fun b hb e => own_ne hq.2.1 h1 (by decide) b e (mem_blkL.1 hb), hq.2.2⟩
  refine ⟨v4, w4, hr4, ⟨by rw [cellsOf_append, cellsOf_one]; simpa using hown4, by simp [h2], fun i r' x' hr' hx' => ?_, fun b hb => ?_, fun i j r1 r2 hij hr1 hr2 => ?_⟩, hf4⟩
  · by_cases hi : i < rs.length
    · rw [List.getElem?_append_left hi] at hr'
      rw [List.getElem?_append_left (by omega)] at hx'
      exact hK (h3 i r' x' hr' hx')
    · have hil : i < (rs ++ [r]).length := (List.getElem?_eq_some_iff.1 hr').1
      simp only [List.length_append, List.length_cons, List.length_nil] at hil
      have : i = rs.length := by omega
      subst this
      rw [List.getElem?_concat_length] at hr'
      rw [h2, List.getElem?_concat_length] at hx'
      cases hr'; cases hx'
      exact hK hr
  · rcases hbk with e | ⟨b', e1, e2⟩
    · exact h4 b (e ▸ hb)
    · rw [e1] at hb; cases hb; omega
  · have hj : j < (rs ++ [r]).length := (List.getElem?_eq_some_iff.1 hr2).1
    simp only [List.length_append, List.length_cons, List.length_nil] at hj
    rw [List.getElem?_append_left (by omega)] at hr1
    by_cases hjl : j < rs.length
    · rw [List.getElem?_append_left hjl] at hr2
      exact h5 i j r1 r2 hij hr1 hr2
    · have : j = rs.length := by omega
      subst this
      rw [List.getElem?_concat_length] at hr2
      cases hr2
      exact hap i r1 hr1
set_option maxHeartbeats 4000000 in
theorem from_logD {w : World} {lb : Nat} {Wr Rd : List Nat} {L : List Ks} {n m : Int} {K : Value → World → Prop} (h : LogAt w lb Wr Rd L)
    (hK : ∀ v w' rs, RcsD w' w.heap.size v (fromL L n m) rs → Fr [] w w' → K v w') : CallsN Try.prog 14 [.pointer (some ⟨lb, 0, none⟩), .int .i64 n, .int .i64 m] w K := by
  have cw := cur w
  have hL := h.len
  obtain ⟨d, hd⟩ : ∃ d, d = (n - 1).toNat := ⟨_, rfl⟩
  have hmax : max n 1 = (d : Int) + 1 := by omega
  have hlen : ∀ j, (((recsL L).drop d).take j).length = min j (L.length - d) := fun j => by rw [List.length_take, List.length_drop, recsL_len]
  refine call14 ?_
  simp (maxSteps := 4000000) (disch := (first | assumption | exact List.not_mem_nil | exact Fr.refl _ _ | ((repeat (first | assumption | apply cur_alloc | apply cur_setB | apply cur_drew | apply cur_drewN)); done) | omega | (simp only [gz, Value.cells, oneC]; first | done | omega) | ((simp only [List.mem_cons, List.not_mem_nil, or_false, gz]); omega) | rfl)) only [↓gsd, gs, ev, Nat.reduceAdd, Nat.reduceEqDiff, oneC, Value.cells, Option.isNone, gt, ↓hk14, hmax]
  refine loop_intro (fun e w' => ∃ (j : Nat) (vo : Value) (rs : List Rc), j ≤ m.toNat ∧ (j ≤ L.length - d) ∧ e 0 = .pointer (some ⟨lb, 0, none⟩) ∧ e 2 = .int .i64 m ∧ e 7 = vo ∧ e 1 = .int .i64 ((d : Int) + j + 1) ∧
      RcsD w' w.heap.size vo (((recsL L).drop d).take j) rs ∧ Fr [] w w') (fun e _ => (L.length + 1 - (numOf (e 1)).toNat)) ?_ ?_
  · refine ⟨0, .slice none 0 0, [], Nat.zero_le _, Nat.zero_le _, ?_⟩
    simp (maxSteps := 4000000) (disch := (first | assumption | exact List.not_mem_nil | exact Fr.refl _ _ | ((repeat (first | assumption | apply cur_alloc | apply cur_setB | apply cur_drew | apply cur_drewN)); done) | omega | (simp only [gz, Value.cells, oneC]; first | done | omega) | ((simp only [List.mem_cons, List.not_mem_nil, or_false, gz]); omega) | rfl)) only [↓gsd, gs, ev, Nat.reduceAdd, Nat.reduceEqDiff, oneC, Value.cells, Option.isNone, Int.natCast_zero, Int.add_zero]
    exact ⟨⟨Own.nil, rfl, fun i r x hr => by simp at hr, fun b hb => by simp [Value.ownBlock] at hb, fun i j r r' _ hr => by simp at hr⟩, Fr.refl _ _⟩
  · rintro e w1 k ⟨j, vo, rs, hj, hjl, e0, e2, e7, e1, hr, hf⟩ hk
    have cw1 := cur w1
    have hz1 := hf.size
    have h1 := h.frN hf
    obtain ⟨oa, oc, hvo⟩ := hr.own.sl.form
    have hol := hlen j
    rw [Nat.min_eq_left hjl] at hol
    rw [hr.len, hol] at hvo
    have hdone : ¬ ((d : Int) + j + 1 ≤ (L.length : Int) ∧ (j : Int) < m) → ((recsL L).drop d).take j = fromL L n m := by
      intro hh
      unfold fromL
      rw [← hd]
      by_cases q : (d : Int) + j + 1 ≤ (L.length : Int)
      · have : j = m.toNat := by omega
        rw [this]
      · rw [List.take_of_length_le (by rw [List.length_drop, recsL_len]; omega), List.take_of_length_le (by rw [List.length_drop, recsL_len]; omega)]
    by_cases c1 : (d : Int) + j + 1 ≤ (L.length : Int)
    · have d1 : decide ((d : Int) + j + 1 ≤ (L.length : Int)) = true := decide_eq_true c1
      by_cases c2 : (j : Int) < m
      · have d2 : decide ((j : Int) < m) = true := decide_eq_true c2
        simp (maxSteps := 4000000) (disch := (first | assumption | exact List.not_mem_nil | exact Fr.refl _ _ | ((repeat (first | assumption | apply cur_alloc | apply cur_setB | apply cur_drew | apply cur_drewN)); done) | omega | (simp only [gz, Value.cells, oneC]; first | done | omega) | ((simp only [List.mem_cons, List.not_mem_nil, or_false, gz]); omega) | rfl)) only [↓gsd, gs, ev, Nat.reduceAdd, Nat.reduceEqDiff, oneC, Value.cells, Option.isNone, gt, ↓hk14, e0, e1, e2, e7]
        refine last_spec h1 ?_
        simp (maxSteps := 4000000) (disch := (first | assumption | exact List.not_mem_nil | exact Fr.refl _ _ | ((repeat (first | assumption | apply cur_alloc | apply cur_setB | apply cur_drew | apply cur_drewN)); done) | omega | (simp only [gz, Value.cells, oneC]; first | done | omega) | ((simp only [List.mem_cons, List.not_mem_nil, or_false, gz]); omega) | rfl)) only [↓gsd, gs, ev, Nat.reduceAdd, Nat.reduceEqDiff, oneC, Value.cells, Option.isNone, gt, ↓hk14, e0, e1, e2, e7, hvo, d1, d2]
        obtain ⟨ks, hks⟩ : ∃ ks, L[d + j]? = some ks := ⟨L[d + j]'(by omega), List.getElem?_eq_getElem (by omega)⟩
        have hg : getL L ((d : Int) + j + 1) = some ks := by have := getL_at hks; rwa [Int.natCast_add] at this
        refine get_log h1 (fun e => by rw [hg] at e; cases e) fun ks' r w2 hg' hf2 hrc => ?_
        rw [hg] at hg'; cases hg'
        have cw2 := cur w2
        have hz2 := hf2.size
        unfold Rc.v encRc
        have hF2 := hf.trans' hf2
        simp (maxSteps := 4000000) (disch := (first | assumption | exact List.not_mem_nil | exact Fr.refl _ _ | ((repeat (first | assumption | apply cur_alloc | apply cur_setB | apply cur_drew | apply cur_drewN)); done) | omega | (simp only [gz, Value.cells, oneC]; first | done | omega) | ((simp only [List.mem_cons, List.not_mem_nil, or_false, gz]); omega) | rfl)) only [↓gsd, gs, ev, Nat.reduceAdd, Nat.reduceEqDiff, oneC, Value.cells, Option.isNone, gt, ↓hk14, e0, e1, e2, e7]
        generalize hW : World.alloc (World.alloc w2 _) _ = w3
        have hf3 : Fr [] w2 w3 := by rw [← hW]; (repeat (first | exact Fr.refl _ _ | assumption | with_reducible apply Fr.alloc | with_reducible apply Fr.drew | with_reducible refine Fr.setB ?_ _ _ (.inr (by first | omega | (simp only [gz]; omega))) | with_reducible refine Fr.setB ?_ _ _ (.inl (by first | assumption | simp)) | with_reducible refine Fr.trans' ?_ (by assumption)))
        have hz3 : w3.heap.size = w2.heap.size + 2 := by rw [← hW]; simp only [gz]
        have hsl : Sl 2 w3 (.slice (some ⟨w2.heap.size + 1, 0, none⟩) 1 1) 1 (encRc r) := by
          rw [← hW]
          refine ⟨rfl, .inr ⟨w2.heap.size + 1, 0, 1, (encRc r).toArray, 47, (0, 0), rfl, ?_, rfl⟩⟩
          unfold encRc
          simp (maxSteps := 4000000) (disch := (first | assumption | exact List.not_mem_nil | exact Fr.refl _ _ | ((repeat (first | assumption | apply cur_alloc | apply cur_setB | apply cur_drew | apply cur_drewN)); done) | omega | (simp only [gz, Value.cells, oneC]; first | done | omega) | ((simp only [List.mem_cons, List.not_mem_nil, or_false, gz]); omega) | rfl)) only [↓gsd, gs, ev, Nat.reduceAdd, Nat.reduceEqDiff, oneC, Value.cells, Option.isNone]
        clear hW
        have cw3 := cur w3
        have hrc3 : RcIs w3 (fun b => w.heap.size ≤ b) r ((d : Int) + j + 1, ks) := (hrc.mono (fun b hb => Nat.le_trans hz1 hb)).frN hf3
        obtain ⟨v4, w4, hr4, hrs4, hf4⟩ := RcsD.app ((hr.frN hf2).frN hf3) hrc3 (by rw [hol]; omega) (by omega) (fun i r' hr' b hb e => by
          have hil := (List.getElem?_eq_some_iff.1 hr').1
          obtain ⟨x', hx'⟩ : ∃ x', (((recsL L).drop d).take j)[i]? = some x' := ⟨_, List.getElem?_eq_getElem (by rw [← hr.len]; exact hil)⟩
          have a1 := (hr.at_ i r' x' hr' hx').2.1.lt hb
          have a2 := hrc.2.2 b e
          omega) hsl
        have cw4 := cur w4
        have hF4 : Fr [] w w4 := fresh_app hr.blk hf4 (hF2.trans' hf3)
        have wr : IntKind.i64.wrap ((d : Int) + j + 1 + 1) = (d : Int) + (j + 1 : Nat) + 1 := by rw [wrap64 (by omega) (by omega)]; omega
        simp (maxSteps := 4000000) (disch := (first | assumption | exact List.not_mem_nil | exact Fr.refl _ _ | ((repeat (first | assumption | apply cur_alloc | apply cur_setB | apply cur_drew | apply cur_drewN)); done) | omega | (simp only [gz, Value.cells, oneC]; first | done | omega) | ((simp only [List.mem_cons, List.not_mem_nil, or_false, gz]); omega) | rfl)) only [↓gsd, gs, ev, Nat.reduceAdd, Nat.reduceEqDiff, oneC, Value.cells, Option.isNone, gt, ↓hk14, e0, e1, e2, e7, hr4, wr]
        refine hk _ _ ⟨j + 1, v4, rs ++ [r], by omega, by omega, ?_⟩ ?_
        · simp (maxSteps := 4000000) (disch := (first | assumption | exact List.not_mem_nil | exact Fr.refl _ _ | ((repeat (first | assumption | apply cur_alloc | apply cur_setB | apply cur_drew | apply cur_drewN)); done) | omega | (simp only [gz, Value.cells, oneC]; first | done | omega) | ((simp only [List.mem_cons, List.not_mem_nil, or_false, gz]); omega) | rfl)) only [↓gsd, gs, ev, Nat.reduceAdd, Nat.reduceEqDiff, oneC, Value.cells, Option.isNone, e0, e1, e2, e7]
          refine ⟨?_, hF4⟩
          have : ((recsL L).drop d).take (j + 1) = ((recsL L).drop d).take j ++ [((d : Int) + j + 1, ks)] := by
            rw [List.take_add_one, List.getElem?_drop, recsL_get, hks]
            simp
          rw [this]; exact hrs4
        · simp (maxSteps := 4000000) (disch := (first | assumption | exact List.not_mem_nil | exact Fr.refl _ _ | ((repeat (first | assumption | apply cur_alloc | apply cur_setB | apply cur_drew | apply cur_drewN)); done) | omega | (simp only [gz, Value.cells, oneC]; first | done | omega) | ((simp only [List.mem_cons, List.not_mem_nil, or_false, gz]); omega) | rfl)) only [↓gsd, gs, ev, Nat.reduceAdd, Nat.reduceEqDiff, oneC, Value.cells, Option.isNone, e1, numOf]; omega
      · have d2 : decide ((j : Int) < m) = false := decide_eq_false c2
        simp (maxSteps := 4000000) (disch := (first | assumption | exact List.not_mem_nil | exact Fr.refl _ _ | ((repeat (first | assumption | apply cur_alloc | apply cur_setB | apply cur_drew | apply cur_drewN)); done) | omega | (simp only [gz, Value.cells, oneC]; first | done | omega) | ((simp only [List.mem_cons, List.not_mem_nil, or_false, gz]); omega) | rfl)) only [↓gsd, gs, ev, Nat.reduceAdd, Nat.reduceEqDiff, oneC, Value.cells, Option.isNone, gt, ↓hk14, e0, e1, e2, e7]
        refine last_spec h1 ?_
        simp (maxSteps := 4000000) (disch := (first | assumption | exact List.not_mem_nil | exact Fr.refl _ _ | ((repeat (first | assumption | apply cur_alloc | apply cur_setB | apply cur_drew | apply cur_drewN)); done) | omega | (simp only [gz, Value.cells, oneC]; first | done | omega) | ((simp only [List.mem_cons, List.not_mem_nil, or_false, gz]); omega) | rfl)) only [↓gsd, gs, ev, Nat.reduceAdd, Nat.reduceEqDiff, oneC, Value.cells, Option.isNone, gt, ↓hk14, e0, e1, e2, e7, hvo, d1, d2]
        rw [hdone (by omega)] at hr
        rw [← hvo]
        exact hK _ _ rs hr hf
    · have d1 : decide ((d : Int) + j + 1 ≤ (L.length : Int)) = false := decide_eq_false c1
      simp (maxSteps := 4000000) (disch := (first | assumption | exact List.not_mem_nil | exact Fr.refl _ _ | ((repeat (first | assumption | apply cur_alloc | apply cur_setB | apply cur_drew | apply cur_drewN)); done) | omega | (simp only [gz, Value.cells, oneC]; first | done | omega) | ((simp only [List.mem_cons, List.not_mem_nil, or_false, gz]); omega) | rfl)) only [↓gsd, gs, ev, Nat.reduceAdd, Nat.reduceEqDiff, oneC, Value.cells, Option.isNone, gt, ↓hk14, e0, e1, e2, e7]
      refine last_spec h1 ?_
      simp (maxSteps := 4000000) (disch := (first | assumption | exact List.not_mem_nil | exact Fr.refl _ _ | ((repeat (first | assumption | apply cur_alloc | apply cur_setB | apply cur_drew | apply cur_drewN)); done) | omega | (simp only [gz, Value.cells, oneC]; first | done | omega) | ((simp only [List.mem_cons, List.not_mem_nil, or_false, gz]); omega) | rfl)) only [↓gsd, gs, ev, Nat.reduceAdd, Nat.reduceEqDiff, oneC, Value.cells, Option.isNone, gt, ↓hk14, e0, e1, e2, e7, hvo, d1]
      rw [hdone (by omega)] at hr
      rw [← hvo]
      exact hK _ _ rs hr hf
theorem cut_high {t e : TypeId} {k : Nat} (hu : ∀ w, (underlying t).run Try.prog w = .ok (.slice e) w) (hs : ∀ w, (sizeOf e).run Try.prog w = .ok k w) (a : Addr) (n c h : Nat) (hh : h ≤ c) (hc : 0 < c) (ha : a.add 0 = a) (w : World) :
    (Instr.sliceAt t (.slice (some a) n c) none (some (.int .i64 (h : Int))) none).run Try.prog w = .ok (.slice (some a) h c) w := by
  have h0 : ¬ c = 0 := by omega
  simp [Instr.sliceAt, Sem.run_bind, hu, Instr.slice, Instr.sliceBounds, Instr.sliceBound, asIntOf, hh, hs, h0, ha]
end Go.Proofs.Ytenokheiindfkab
