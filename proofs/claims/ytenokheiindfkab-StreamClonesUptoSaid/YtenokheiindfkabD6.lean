/- The log: First, Clone. -/
import Derived.Test.YtenokheiindfkabD5
set_option linter.unusedVariables false
set_option linter.unusedSimpArgs false
set_option maxRecDepth 10000
namespace Go.Proofs.Ytenokheiindfkab
open Go.VW
theorem Own.cap {k n : Nat} {e : TypeId} {w : World} {v : Value} {cs : List Value} (h : Own k e w v n cs) : ∀ a m c, v = .slice a m c → m ≤ c := by
  intro a m c hv
  rcases h.2 with ⟨rfl, _⟩ | ⟨g, cap, cur, rfl, _, hg, hnc, _⟩
  · cases hv; exact Nat.le_refl _
  · cases hv; exact hnc
/-- What IndexFunc answers of n things, p of each. -/
def IdxP (n : Nat) (p : Nat → Bool) (r : Int) : Prop := (r = -1 ∧ ∀ i, i < n → p i = false) ∨ ∃ i : Nat, r = i ∧ i < n ∧ p i = true ∧ ∀ j, j < i → p j = false
set_option maxHeartbeats 1000000 in
theorem indexFunc_spec {w : World} {v x0 : Value} {vs : List Value} {p : Nat → Bool} {K : Value → World → Prop} (h : SlOf 1 one1 w v vs) (hl : vs.length ≤ 9223372036854775806)
    (hf : ∀ (i : Nat) (x : Value) (w1 : World) (K : Value → World → Prop), vs[i]? = some x → Fr [] w w1 → (∀ w2, Fr [] w1 w2 → K (.bool (p i)) w2) → CallsN Try.prog 22 [x, x0] w1 K)
    (hK : ∀ (r : Int) (w' : World), IdxP vs.length p r → Fr [] w w' → K (.int .i64 r) w') : CallsN Try.prog 21 [v, .func (.func 22) #[] ([x0] : List Value).toArray] w K := by
  have cw := cur w
  obtain ⟨a, c, hv⟩ := SlOf.form h
  refine call21 ?_
  simp (maxSteps := 4000000) (disch := (first | assumption | exact List.not_mem_nil | exact Fr.refl _ _ | ((repeat (first | assumption | apply cur_alloc | apply cur_setB | apply cur_drew | apply cur_drewN)); done) | omega | (simp only [gz, Value.cells, oneC]; first | done | omega) | ((simp only [List.mem_cons, List.not_mem_nil, or_false, gz]); omega) | rfl)) only [↓gsd, gs, ev, Nat.reduceAdd, Nat.reduceEqDiff, oneC, Value.cells, Option.isNone, gt, ↓hk21, hv]
  rw [← hv]
  refine loop_intro (fun e w' => ∃ i : Nat, i ≤ vs.length ∧ e 0 = v ∧ e 1 = .func (.func 22) #[] ([x0] : List Value).toArray ∧ e 7 = .int .i64 vs.length ∧ e 8 = .int .i64 i ∧ (∀ j, j < i → p j = false) ∧ Fr [] w w')
    (fun e _ => vs.length - (numOf (e 8)).toNat) ?_ ?_
  · refine ⟨0, Nat.zero_le _, ?_⟩
    simp (maxSteps := 4000000) (disch := (first | assumption | exact List.not_mem_nil | exact Fr.refl _ _ | ((repeat (first | assumption | apply cur_alloc | apply cur_setB | apply cur_drew | apply cur_drewN)); done) | omega | (simp only [gz, Value.cells, oneC]; first | done | omega) | ((simp only [List.mem_cons, List.not_mem_nil, or_false, gz]); omega) | rfl)) only [↓gsd, gs, ev, Nat.reduceAdd, Nat.reduceEqDiff, oneC, Value.cells, Option.isNone, Int.natCast_zero]
    exact ⟨fun j hj => absurd hj (by omega), Fr.refl _ _⟩
  · rintro e w1 k ⟨i, hi, e0, e1, e7, e8, hno, hfr⟩ hk
    have cw1 := cur w1
    have hz1 := hfr.size
    by_cases hlt : i < vs.length
    · have el : decide ((i : Int) < (vs.length : Int)) = true := decide_eq_true (by omega)
      have i0 : (0 : Int) ≤ (i : Int) := by omega
      have i1 : (i : Int) < (vs.length : Int) := by omega
      obtain ⟨x, hx⟩ : ∃ x, vs[i]? = some x := ⟨vs[i], List.getElem?_eq_getElem hlt⟩
      obtain ⟨b, off, cap, o, hvb, hob, hbl, _, hcell⟩ := (h.frN hfr).read one1_len i x hx
      have hc0 := fun orig K => hcell 0 x orig K rfl
      simp only [Nat.add_zero, Nat.mul_one] at hc0
      simp (maxSteps := 4000000) (disch := (first | assumption | exact List.not_mem_nil | exact Fr.refl _ _ | ((repeat (first | assumption | apply cur_alloc | apply cur_setB | apply cur_drew | apply cur_drewN)); done) | omega | (simp only [gz, Value.cells, oneC]; first | done | omega) | ((simp only [List.mem_cons, List.not_mem_nil, or_false, gz]); omega) | rfl)) only [↓gsd, gs, ev, Nat.reduceAdd, Nat.reduceEqDiff, oneC, Value.cells, Option.isNone, gt, ↓hk21, e0, e1, e7, e8, el, hvb, i0, i1, Int.toNat_natCast, Nat.mul_one, hob, hc0]
      refine hf i x w1 _ hx hfr fun w2 hf2 => ?_
      have cw2 := cur w2
      have hz2 := hf2.size
      by_cases hs : p i = true
      · simp (maxSteps := 4000000) (disch := (first | assumption | exact List.not_mem_nil | exact Fr.refl _ _ | ((repeat (first | assumption | apply cur_alloc | apply cur_setB | apply cur_drew | apply cur_drewN)); done) | omega | (simp only [gz, Value.cells, oneC]; first | done | omega) | ((simp only [List.mem_cons, List.not_mem_nil, or_false, gz]); omega) | rfl)) only [↓gsd, gs, ev, Nat.reduceAdd, Nat.reduceEqDiff, oneC, Value.cells, Option.isNone, gt, ↓hk21, e0, e1, e7, e8, el, hs]
        exact hK _ _ (.inr ⟨i, rfl, hlt, hs, hno⟩) (hfr.trans' hf2)
      · have hd : p i = false := by simpa using hs
        simp (maxSteps := 4000000) (disch := (first | assumption | exact List.not_mem_nil | exact Fr.refl _ _ | ((repeat (first | assumption | apply cur_alloc | apply cur_setB | apply cur_drew | apply cur_drewN)); done) | omega | (simp only [gz, Value.cells, oneC]; first | done | omega) | ((simp only [List.mem_cons, List.not_mem_nil, or_false, gz]); omega) | rfl)) only [↓gsd, gs, ev, Nat.reduceAdd, Nat.reduceEqDiff, oneC, Value.cells, Option.isNone, gt, ↓hk21, e0, e1, e7, e8, el, hd]
        refine hk _ _ ⟨i + 1, by omega, ?_⟩ ?_
        · simp (maxSteps := 4000000) (disch := (first | assumption | exact List.not_mem_nil | exact Fr.refl _ _ | ((repeat (first | assumption | apply cur_alloc | apply cur_setB | apply cur_drew | apply cur_drewN)); done) | omega | (simp only [gz, Value.cells, oneC]; first | done | omega) | ((simp only [List.mem_cons, List.not_mem_nil, or_false, gz]); omega) | rfl)) only [↓gsd, gs, ev, Nat.reduceAdd, Nat.reduceEqDiff, oneC, Value.cells, Option.isNone, e0, e1, e7, e8, hvb, Int.natCast_add, Int.natCast_one]
          refine ⟨fun j hj => ?_, hfr.trans' hf2⟩
          by_cases hji : j = i
          · subst hji; exact hd
          · exact hno j (by omega)
        · have e3 : ((i : Int) + 1).toNat = i + 1 := by omega
          simp (maxSteps := 4000000) (disch := (first | assumption | exact List.not_mem_nil | exact Fr.refl _ _ | ((repeat (first | assumption | apply cur_alloc | apply cur_setB | apply cur_drew | apply cur_drewN)); done) | omega | (simp only [gz, Value.cells, oneC]; first | done | omega) | ((simp only [List.mem_cons, List.not_mem_nil, or_false, gz]); omega) | rfl)) only [↓gsd, gs, ev, Nat.reduceAdd, Nat.reduceEqDiff, oneC, Value.cells, Option.isNone, e8, numOf, Int.toNat_natCast, e3]; omega
    · have el : decide ((i : Int) < (vs.length : Int)) = false := decide_eq_false (by omega)
      simp (maxSteps := 4000000) (disch := (first | assumption | exact List.not_mem_nil | exact Fr.refl _ _ | ((repeat (first | assumption | apply cur_alloc | apply cur_setB | apply cur_drew | apply cur_drewN)); done) | omega | (simp only [gz, Value.cells, oneC]; first | done | omega) | ((simp only [List.mem_cons, List.not_mem_nil, or_false, gz]); omega) | rfl)) only [↓gsd, gs, ev, Nat.reduceAdd, Nat.reduceEqDiff, oneC, Value.cells, Option.isNone, gt, ↓hk21, e0, e1, e7, e8, el]
      exact hK _ _ (.inl ⟨rfl, fun j hj => hno j (by omega)⟩) hfr
theorem firstC_spec {w : World} {kb : Nat} {s : ByteArray} {x : Value} {ks : List ByteArray} {K : Value → World → Prop} (hb : w.heap[kb]? = some (.cells ([.string s] : List Value).toArray 9 (0, 0))) (h : SlOf 1 encS w x ks) (hl : ks.length ≤ 9223372036854775806)
    (hK : ∀ w', Fr [] w w' → K (.bool (ks.any fun k => decide (s = k))) w') : CallsN Try.prog 22 [x, .pointer (some ⟨kb, 0, none⟩)] w K := by
  have cw := cur w
  have hlt := lt_of_get _ _ hb
  refine call22 ?_
  simp (maxSteps := 4000000) (disch := (first | assumption | exact List.not_mem_nil | exact Fr.refl _ _ | ((repeat (first | assumption | apply cur_alloc | apply cur_setB | apply cur_drew | apply cur_drewN)); done) | omega | (simp only [gz, Value.cells, oneC]; first | done | omega) | ((simp only [List.mem_cons, List.not_mem_nil, or_false, gz]); omega) | rfl)) only [↓gsd, gs, ev, Nat.reduceAdd, Nat.reduceEqDiff, oneC, Value.cells, Option.isNone, gt, ↓hk22, hb]
  refine contains_spec h hl fun w1 hf1 => ?_
  have cw1 := cur w1
  exact hK _ hf1
/-- The number n is a record's that has the key. -/
def hasAt (L : List Ks) (s : ByteArray) (n : Int) : Prop := 1 ≤ n ∧ ∃ ks, L[(n - 1).toNat]? = some ks ∧ s ∈ ks
/-- What First answers. -/
def FirstP (L : List Ks) (s : ByteArray) (a : Int) : Option Int → Prop
  | some n => a < n ∧ hasAt L s n ∧ ∀ m, a < m → m < n → ¬ hasAt L s m
  | none => ∀ m, a < m → ¬ hasAt L s m
theorem FirstP.uniq {L : List Ks} {s : ByteArray} {a : Int} {r r' : Option Int} (h : FirstP L s a r) (h' : FirstP L s a r') : r = r' := by
  cases r with
  | none => cases r' with
    | none => rfl
    | some n => exact absurd h'.2.1 (h n h'.1)
  | some n => cases r' with
    | none => exact absurd h.2.1 (h' n h.1)
    | some m =>
      rcases Int.lt_trichotomy n m with q | q | q
      · exact absurd h.2.1 (h'.2.2 n h.1 q)
      · rw [q]
      · exact absurd h'.2.1 (h.2.2 m h'.1 q)
def firstV (r : Option Int) : Value := match r with
  | some n => .tuple ([.int .i64 n, .bool true] : List Value).toArray
  | none => .tuple ([.int .i64 0, .bool false] : List Value).toArray
theorem any_mem (ks : Ks) (s : ByteArray) : (ks.any fun k => decide (s = k)) = true ↔ s ∈ ks := by
  rw [List.any_eq_true]
  constructor
  · rintro ⟨x, hx, e⟩
    simp at e; subst e; exact hx
  · intro h; exact ⟨s, h, by simp⟩
set_option maxHeartbeats 4000000 in
theorem first_log {w : World} {lb : Nat} {Wr Rd : List Nat} {L : List Ks} {s : ByteArray} {a : Int} {K : Value → World → Prop} (h : LogAt w lb Wr Rd L)
    (hK : ∀ r w', FirstP L s a r → Fr [] w w' → K (firstV r) w') : CallsN Try.prog 11 [.pointer (some ⟨lb, 0, none⟩), .string s, .int .i64 a] w K := by
  have cw := cur w
  have hL := h.len
  refine call11 ?_
  simp (maxSteps := 4000000) (disch := (first | assumption | exact List.not_mem_nil | exact Fr.refl _ _ | ((repeat (first | assumption | apply cur_alloc | apply cur_setB | apply cur_drew | apply cur_drewN)); done) | omega | (simp only [gz, Value.cells, oneC]; first | done | omega) | ((simp only [List.mem_cons, List.not_mem_nil, or_false, gz]); omega) | rfl)) only [↓gsd, gs, ev, Nat.reduceAdd, Nat.reduceEqDiff, oneC, Value.cells, Option.isNone, gt, ↓hk11]
  generalize hW : World.alloc w _ = w1
  have hf1 : Fr [] w w1 := by rw [← hW]; (repeat (first | exact Fr.refl _ _ | assumption | with_reducible apply Fr.alloc | with_reducible apply Fr.drew | with_reducible refine Fr.setB ?_ _ _ (.inr (by first | omega | (simp only [gz]; omega))) | with_reducible refine Fr.setB ?_ _ _ (.inl (by first | assumption | simp)) | with_reducible refine Fr.trans' ?_ (by assumption)))
  have hz1 : w1.heap.size = w.heap.size + 1 := by rw [← hW]; simp only [gz]
  have hkb : w1.heap[w.heap.size]? = some (.cells ([.string s] : List Value).toArray 9 (0, 0)) := by rw [← hW]; exact get_alloc_new _ _
  clear hW
  have cw1 := cur w1
  have h1 := h.frN hf1
  refine last_spec h1 ?_
  by_cases c1 : (L.length : Int) ≤ a
  · have d1 : decide ((L.length : Int) ≤ a) = true := decide_eq_true c1
    simp (maxSteps := 4000000) (disch := (first | assumption | exact List.not_mem_nil | exact Fr.refl _ _ | ((repeat (first | assumption | apply cur_alloc | apply cur_setB | apply cur_drew | apply cur_drewN)); done) | omega | (simp only [gz, Value.cells, oneC]; first | done | omega) | ((simp only [List.mem_cons, List.not_mem_nil, or_false, gz]); omega) | rfl)) only [↓gsd, gs, ev, Nat.reduceAdd, Nat.reduceEqDiff, oneC, Value.cells, Option.isNone, gt, ↓hk11, d1]
    refine hK none _ (fun m hm hh => ?_) hf1
    obtain ⟨h0, ks, hks, _⟩ := hh
    have := (List.getElem?_eq_some_iff.1 hks).1
    omega
  have d1 : decide ((L.length : Int) ≤ a) = false := decide_eq_false c1
  obtain ⟨d, hd⟩ : ∃ d, d = a.toNat := ⟨_, rfl⟩
  have hmax : max a 0 = (d : Int) := by omega
  obtain ⟨vl, vs, hh, hsl, hvl, hall, hk⟩ := h1.key
  obtain ⟨⟨vl', vs', hh', ho, _, _, _⟩, _⟩ := h1
  rw [hh] at hh'
  have hvl' : vl' = vl := by simpa using hh'.symm
  subst hvl'
  have hlt := lt_of_get _ _ hh
  obtain ⟨va, vc, hvf⟩ := hsl.form
  obtain ⟨v', hrun, hcut, hcap', hoff⟩ := run_cut_low (P := Try.prog) (t := 22) Try.runUnderlying22 Try.sizeOf30 hsl (Own.cap ho) .i64 d (by omega)
  rw [hvf] at hh hrun
  simp (maxSteps := 4000000) (disch := (first | assumption | exact List.not_mem_nil | exact Fr.refl _ _ | ((repeat (first | assumption | apply cur_alloc | apply cur_setB | apply cur_drew | apply cur_drewN)); done) | omega | (simp only [gz, Value.cells, oneC]; first | done | omega) | ((simp only [List.mem_cons, List.not_mem_nil, or_false, gz]); omega) | rfl)) only [↓gsd, gs, ev, Nat.reduceAdd, Nat.reduceEqDiff, oneC, Value.cells, Option.isNone, gt, ↓hk11, d1, hmax, hh, hrun]
  have hcut' : SlOf 1 one1 w1 v' (vs.drop d) := by
    unfold SlOf
    rw [cellsOf_one1] at hcut ⊢
    simpa using hcut
  obtain ⟨p, hp⟩ : ∃ p : Nat → Bool, p = fun i => match L[d + i]? with
    | some ks => ks.any fun k => decide (s = k)
    | none => false := ⟨_, rfl⟩
  have hpt : ∀ i, p i = true ↔ hasAt L s ((d + i : Nat) + 1) := fun i => by
    subst hp
    unfold hasAt
    have : (((d + i : Nat) : Int) + 1 - 1).toNat = d + i := by omega
    rw [this]
    cases hq : L[d + i]? with
    | none => simp [hq]
    | some ks =>
      simp only [hq, any_mem]
      exact ⟨fun h => ⟨by omega, ks, rfl, h⟩, fun ⟨_, ks', e, h⟩ => by cases e; exact h⟩
  refine indexFunc_spec (p := p) hcut' (by rw [List.length_drop]; omega) (fun i x w2 K2 hx hf2 hK2 => ?_) fun r w2 hr hf2 => ?_
  · rw [List.getElem?_drop] at hx
    have hil := (List.getElem?_eq_some_iff.1 hx).1
    obtain ⟨ks, hks⟩ : ∃ ks, L[d + i]? = some ks := ⟨L[d + i]'(by omega), List.getElem?_eq_getElem (by omega)⟩
    obtain ⟨v2, q1, q2, _⟩ := hk _ ks hks
    rw [hx] at q1; cases q1
    have h8 := (chkK_ok (h.ok ks (List.mem_of_getElem? hks))).2.1
    refine firstC_spec (ks := ks) (hf2.getN hkb) (Sl.frN q2.sl hf2) (by omega) fun w3 hf3 => ?_
    have := hK2 w3 hf3
    rw [hp] at this
    simpa only [hks] using this
  · have cw2 := cur w2
    have hz2 := hf2.size
    have hF := hf1.trans' hf2
    have hback : ∀ m, a < m → hasAt L s m → ∃ i : Nat, m = ((d + i : Nat) : Int) + 1 ∧ i < (vs.drop d).length := fun m hm hh => by
      obtain ⟨h0, ks, hks, _⟩ := hh
      have := (List.getElem?_eq_some_iff.1 hks).1
      exact ⟨(m - 1).toNat - d, by omega, by rw [List.length_drop]; omega⟩
    rcases hr with ⟨rfl, hno⟩ | ⟨i, rfl, hi, hpi, hno⟩
    · simp (maxSteps := 4000000) (disch := (first | assumption | exact List.not_mem_nil | exact Fr.refl _ _ | ((repeat (first | assumption | apply cur_alloc | apply cur_setB | apply cur_drew | apply cur_drewN)); done) | omega | (simp only [gz, Value.cells, oneC]; first | done | omega) | ((simp only [List.mem_cons, List.not_mem_nil, or_false, gz]); omega) | rfl)) only [↓gsd, gs, ev, Nat.reduceAdd, Nat.reduceEqDiff, oneC, Value.cells, Option.isNone, gt, ↓hk11]
      refine hK none _ (fun m hm hh => ?_) hF
      obtain ⟨i, rfl, hi⟩ := hback m hm hh
      have := (hpt i).2 hh
      rw [hno i hi] at this; cases this
    · have d2 : decide ((i : Int) < 0) = false := decide_eq_false (by omega)
      rw [List.length_drop] at hi
      have wr : IntKind.i64.wrap (IntKind.i64.wrap ((d : Int) + i) + 1) = ((d + i : Nat) : Int) + 1 := by
        rw [wrap64 (a := (d : Int) + i) (by omega) (by omega), wrap64 (by omega) (by omega)]; omega
      simp (maxSteps := 4000000) (disch := (first | assumption | exact List.not_mem_nil | exact Fr.refl _ _ | ((repeat (first | assumption | apply cur_alloc | apply cur_setB | apply cur_drew | apply cur_drewN)); done) | omega | (simp only [gz, Value.cells, oneC]; first | done | omega) | ((simp only [List.mem_cons, List.not_mem_nil, or_false, gz]); omega) | rfl)) only [↓gsd, gs, ev, Nat.reduceAdd, Nat.reduceEqDiff, oneC, Value.cells, Option.isNone, gt, ↓hk11, d2, wr]
      refine hK (some (((d + i : Nat) : Int) + 1)) _ ⟨by omega, (hpt i).1 hpi, fun m hm hlt2 hh => ?_⟩ hF
      obtain ⟨j, rfl, hj⟩ := hback m hm hh
      have := (hpt j).2 hh
      rw [hno j (by omega)] at this; cases this
theorem clone_log {w : World} {lb : Nat} {Wr Rd : List Nat} {L : List Ks} {K : Value → World → Prop} (h : LogAt w lb Wr Rd L)
    (hK : ∀ b Wr' w', LogAt w' b Wr' Rd L → (∀ x ∈ Wr', w.heap.size ≤ x) → Fr [] w w' → K (.pointer (some ⟨b, 0, none⟩)) w') : CallsN Try.prog 17 [.pointer (some ⟨lb, 0, none⟩)] w K := by
  have cw := cur w
  have hL := h.len
  obtain ⟨vl, vs, hh, hsl, hvl, hall, hk⟩ := h.key
  have hlt := lt_of_get _ _ hh
  obtain ⟨va, vc, hvf⟩ := hsl.form
  have hh' := hh
  rw [hvf] at hh'
  refine call17 ?_
  simp (maxSteps := 4000000) (disch := (first | assumption | exact List.not_mem_nil | exact Fr.refl _ _ | ((repeat (first | assumption | apply cur_alloc | apply cur_setB | apply cur_drew | apply cur_drewN)); done) | omega | (simp only [gz, Value.cells, oneC]; first | done | omega) | ((simp only [List.mem_cons, List.not_mem_nil, or_false, gz]); omega) | rfl)) only [↓gsd, gs, ev, Nat.reduceAdd, Nat.reduceEqDiff, oneC, Value.cells, Option.isNone, gt, ↓hk17, hh']
  rw [← hvf]
  refine clone2_spec hsl (by omega) hall fun v2 w2 hown2 hf2 hfr2 => ?_
  have cw2 := cur w2
  have hz2 := hf2.size
  obtain ⟨a2, c2, hv2⟩ := hown2.sl.form
  have hv2' := hv2
  simp (maxSteps := 4000000) (disch := (first | assumption | exact List.not_mem_nil | exact Fr.refl _ _ | ((repeat (first | assumption | apply cur_alloc | apply cur_setB | apply cur_drew | apply cur_drewN)); done) | omega | (simp only [gz, Value.cells, oneC]; first | done | omega) | ((simp only [List.mem_cons, List.not_mem_nil, or_false, gz]); omega) | rfl)) only [↓gsd, gs, ev, Nat.reduceAdd, Nat.reduceEqDiff, oneC, Value.cells, Option.isNone, gt, ↓hk17, hv2]
  rw [← hv2]
  have hfa : ∀ o, Fr [] w2 (w2.alloc o) := fun o => (Fr.refl _ _).alloc o
  refine hK w2.heap.size (w2.heap.size :: blkL v2) _ ⟨⟨v2, vs, get_alloc_new _ _, hown2.frN (hfa _), hvl, fun i v ks hv hks => ?_, fun b hb => List.mem_cons_of_mem _ (mem_blkL.2 hb)⟩, List.mem_cons_self .., fun x hx => ?_, hL, h.ok⟩ (fun x hx => ?_) (hf2.trans' (hfa _))
  · obtain ⟨v', q1, q2, q3⟩ := hk i ks hks
    rw [hv] at q1; cases q1
    exact ⟨(q2.frN hf2).frN (hfa _), q3⟩
  · rw [size_alloc]
    rcases hx with hx | hx
    · rcases List.mem_cons.1 hx with rfl | hx
      · omega
      · have := hown2.lt (mem_blkL.1 hx); omega
    · have := h.lt x (.inr hx); omega
  · rcases List.mem_cons.1 hx with rfl | hx
    · omega
    · exact hfr2 x (mem_blkL.1 hx)
end Go.Proofs.Ytenokheiindfkab
