/- slices.Clone, Index, Contains of strings; slices.Clone of slices of strings. -/
import Derived.Test.YtenokheiindfkabH1
set_option linter.unusedVariables false
set_option linter.unusedSimpArgs false
set_option maxRecDepth 10000
namespace Go.Proofs.Ytenokheiindfkab
open Go.VW
abbrev Own := @Go.VW.Own
def encS (s : ByteArray) : List Value := [.string s]
theorem encS_len (s : ByteArray) : (encS s).length = 1 := rfl
def one1 (v : Value) : List Value := [v]
theorem one1_len (v : Value) : (one1 v).length = 1 := rfl
theorem cellsOf_one1 (vs : List Value) : cellsOf one1 vs = vs := by
  induction vs with
  | nil => rfl
  | cons v vs ih => simp only [cellsOf, List.flatMap_cons, one1] at *; simpa using ih
theorem Own.frN {k n : Nat} {e : TypeId} {w w' : World} {v : Value} {cs : List Value} (h : Own k e w v n cs) (hf : Fr [] w w') : Own k e w' v n cs := h.fr (M := []) hf (by simp)
theorem own_fresh {k n : Nat} {e : TypeId} {w w' : World} {v v' : Value} {cs : List Value} {B : Nat} (hb : v'.ownBlock = v.ownBlock ∨ ∃ b, v'.ownBlock = some b ∧ w.heap.size ≤ b) (hv : ∀ b, v.ownBlock = some b → B ≤ b) (hs : B ≤ w.heap.size) : ∀ b, v'.ownBlock = some b → B ≤ b := by
  intro b hbb
  rcases hb with h | ⟨c, h1, h2⟩
  · exact hv b (h ▸ hbb)
  · rw [h1] at hbb; cases hbb; omega
set_option maxHeartbeats 1000000 in
theorem clone_spec {w : World} {v : Value} {ks : List ByteArray} {K : Value → World → Prop} (h : SlOf 1 encS w v ks) (hl : ks.length * 16 ≤ 140737488355328)
    (hK : ∀ v' w', Own 1 9 w' v' ks.length (cellsOf encS ks) → Fr [] w w' → (∀ b, v'.ownBlock = some b → w.heap.size ≤ b) → K v' w') : CallsN Try.prog 20 [v] w K := by
  have cw := cur w
  obtain ⟨a, c, hv⟩ := SlOf.form h
  refine call20 ?_
  cases a with
  | none =>
    have : ks = [] := by rw [hv] at h; exact List.eq_nil_of_length_eq_zero (Sl.none h)
    subst this
    simp (maxSteps := 4000000) (disch := (first | assumption | exact List.not_mem_nil | exact Fr.refl _ _ | ((repeat (first | assumption | apply cur_alloc | apply cur_setB | apply cur_drew | apply cur_drewN)); done) | omega | (simp only [gz, Value.cells, oneC]; first | done | omega) | ((simp only [List.mem_cons, List.not_mem_nil, or_false, gz]); omega) | rfl)) only [↓gsd, gs, ev, Nat.reduceAdd, Nat.reduceEqDiff, oneC, Value.cells, Option.isNone, gt, ↓hk20, hv]
    exact hK _ _ Own.nil (Fr.refl _ _) (fun b hb => by simp [Value.ownBlock] at hb)
  | some a =>
    obtain ⟨v4, w4, hr4, hown4, hf4, hbk⟩ := ap30 (ty := 30) (Own.new0 w) (h.frN ((Fr.refl [] w).alloc _)) (cells_oneC (enc := encS) (fun _ => rfl) ks) (by omega)
    have hf4' : Fr [] w w4 := ((Fr.refl [] w).alloc _).trans hf4 (fun x hx => by simp [blkL, Value.ownBlock] at hx; exact .inr (by omega))
    rw [hv] at hr4
    simp (maxSteps := 4000000) (disch := (first | assumption | exact List.not_mem_nil | exact Fr.refl _ _ | ((repeat (first | assumption | apply cur_alloc | apply cur_setB | apply cur_drew | apply cur_drewN)); done) | omega | (simp only [gz, Value.cells, oneC]; first | done | omega) | ((simp only [List.mem_cons, List.not_mem_nil, or_false, gz]); omega) | rfl)) only [↓gsd, gs, ev, Nat.reduceAdd, Nat.reduceEqDiff, oneC, Value.cells, Option.isNone, gt, ↓hk20, hv, hr4]
    refine hK _ _ (by simpa using hown4) hf4' ?_
    exact own_fresh (k := 1) (n := 0) (e := 9) (w' := w4) (cs := []) hbk (by intro b hb; simp [Value.ownBlock] at hb; omega) (by simp [size_alloc])
set_option maxHeartbeats 1000000 in
theorem clone2_spec {w : World} {v : Value} {vs : List Value} {K : Value → World → Prop} (h : SlOf 1 one1 w v vs) (hl : vs.length * 24 ≤ 140737488355328) (h1 : vs.all oneC = true)
    (hK : ∀ v' w', Own 1 30 w' v' vs.length vs → Fr [] w w' → (∀ b, v'.ownBlock = some b → w.heap.size ≤ b) → K v' w') : CallsN Try.prog 28 [v] w K := by
  have cw := cur w
  obtain ⟨a, c, hv⟩ := SlOf.form h
  refine call28 ?_
  cases a with
  | none =>
    have : vs = [] := by rw [hv] at h; exact List.eq_nil_of_length_eq_zero (Sl.none h)
    subst this
    simp (maxSteps := 4000000) (disch := (first | assumption | exact List.not_mem_nil | exact Fr.refl _ _ | ((repeat (first | assumption | apply cur_alloc | apply cur_setB | apply cur_drew | apply cur_drewN)); done) | omega | (simp only [gz, Value.cells, oneC]; first | done | omega) | ((simp only [List.mem_cons, List.not_mem_nil, or_false, gz]); omega) | rfl)) only [↓gsd, gs, ev, Nat.reduceAdd, Nat.reduceEqDiff, oneC, Value.cells, Option.isNone, gt, ↓hk28, hv]
    exact hK _ _ Own.nil (Fr.refl _ _) (fun b hb => by simp [Value.ownBlock] at hb)
  | some a =>
    obtain ⟨v4, w4, hr4, hown4, hf4, hbk⟩ := ap22 (ty := 22) (Own.new0 w) (h.frN ((Fr.refl [] w).alloc _)) (by rw [cellsOf_one1]; exact h1) (by omega)
    have hf4' : Fr [] w w4 := ((Fr.refl [] w).alloc _).trans hf4 (fun x hx => by simp [blkL, Value.ownBlock] at hx; exact .inr (by omega))
    rw [hv] at hr4
    simp (maxSteps := 4000000) (disch := (first | assumption | exact List.not_mem_nil | exact Fr.refl _ _ | ((repeat (first | assumption | apply cur_alloc | apply cur_setB | apply cur_drew | apply cur_drewN)); done) | omega | (simp only [gz, Value.cells, oneC]; first | done | omega) | ((simp only [List.mem_cons, List.not_mem_nil, or_false, gz]); omega) | rfl)) only [↓gsd, gs, ev, Nat.reduceAdd, Nat.reduceEqDiff, oneC, Value.cells, Option.isNone, gt, ↓hk28, hv, hr4]
    refine hK _ _ (by simpa [cellsOf_one1] using hown4) hf4' ?_
    exact own_fresh (k := 1) (n := 0) (e := 30) (w' := w4) (cs := []) hbk (by intro b hb; simp [Value.ownBlock] at hb; omega) (by simp [size_alloc])
def indexI {α : Type} (p : α → Bool) (xs : List α) : Int := match xs.findIdx? p with
  | some i => i
  | none => -1
theorem findIdx?_at {α : Type} (p : α → Bool) (xs : List α) (i : Nat) (x : α) (hx : xs[i]? = some x) (hp : p x = true) (h : ∀ j y, j < i → xs[j]? = some y → p y = false) : xs.findIdx? p = some i := by
  rw [List.findIdx?_eq_some_iff_getElem]
  obtain ⟨hi, hxi⟩ := List.getElem?_eq_some_iff.1 hx
  refine ⟨hi, by rw [hxi]; exact hp, fun j hj => ?_⟩
  have := h j xs[j] hj (List.getElem?_eq_getElem (by omega))
  simp [this]
theorem findIdx?_no {α : Type} (p : α → Bool) (xs : List α) (h : ∀ (j : Nat) y, xs[j]? = some y → p y = false) : xs.findIdx? p = none := by
  rw [List.findIdx?_eq_none_iff]
  intro x hx
  obtain ⟨j, hj⟩ := List.getElem?_of_mem hx
  exact h j x hj
set_option maxHeartbeats 1000000 in
theorem index_spec {w : World} {v : Value} {ks : List ByteArray} {s : ByteArray} {K : Value → World → Prop} (h : SlOf 1 encS w v ks) (hl : ks.length ≤ 9223372036854775806)
    (hK : ∀ w', Fr [] w w' → K (.int .i64 (indexI (fun k => decide (s = k)) ks)) w') : CallsN Try.prog 32 [v, .string s] w K := by
  have cw := cur w
  obtain ⟨a, c, hv⟩ := SlOf.form h
  refine call32 ?_
  simp (maxSteps := 4000000) (disch := (first | assumption | exact List.not_mem_nil | exact Fr.refl _ _ | ((repeat (first | assumption | apply cur_alloc | apply cur_setB | apply cur_drew | apply cur_drewN)); done) | omega | (simp only [gz, Value.cells, oneC]; first | done | omega) | ((simp only [List.mem_cons, List.not_mem_nil, or_false, gz]); omega) | rfl)) only [↓gsd, gs, ev, Nat.reduceAdd, Nat.reduceEqDiff, oneC, Value.cells, Option.isNone, gt, ↓hk32, hv]
  rw [← hv]
  refine loop_intro (fun e w' => ∃ i : Nat, i ≤ ks.length ∧ e 0 = v ∧ e 1 = .string s ∧ e 7 = .int .i64 ks.length ∧ e 8 = .int .i64 i ∧ (∀ j y, j < i → ks[j]? = some y → decide (s = y) = false) ∧ Fr [] w w')
    (fun e _ => ks.length - (numOf (e 8)).toNat) ?_ ?_
  · refine ⟨0, Nat.zero_le _, ?_⟩
    simp (maxSteps := 4000000) (disch := (first | assumption | exact List.not_mem_nil | exact Fr.refl _ _ | ((repeat (first | assumption | apply cur_alloc | apply cur_setB | apply cur_drew | apply cur_drewN)); done) | omega | (simp only [gz, Value.cells, oneC]; first | done | omega) | ((simp only [List.mem_cons, List.not_mem_nil, or_false, gz]); omega) | rfl)) only [↓gsd, gs, ev, Nat.reduceAdd, Nat.reduceEqDiff, oneC, Value.cells, Option.isNone, Int.natCast_zero]
    exact ⟨fun j y hj => absurd hj (by omega), Fr.refl _ _⟩
  · rintro e w1 k ⟨i, hi, e0, e1, e7, e8, hno, hf⟩ hk
    have cw1 := cur w1
    have hz1 := hf.size
    by_cases hlt : i < ks.length
    · have el : decide ((i : Int) < (ks.length : Int)) = true := decide_eq_true (by omega)
      have i0 : (0 : Int) ≤ (i : Int) := by omega
      have i1 : (i : Int) < (ks.length : Int) := by omega
      obtain ⟨x, hx⟩ : ∃ x, ks[i]? = some x := ⟨ks[i], List.getElem?_eq_getElem hlt⟩
      obtain ⟨b, off, cap, o, hvb, hob, hbl, _, hcell⟩ := (h.frN hf).read encS_len i x hx
      have hc0 := fun orig K => hcell 0 (.string x) orig K rfl
      simp only [Nat.add_zero, Nat.mul_one] at hc0
      simp (maxSteps := 4000000) (disch := (first | assumption | exact List.not_mem_nil | exact Fr.refl _ _ | ((repeat (first | assumption | apply cur_alloc | apply cur_setB | apply cur_drew | apply cur_drewN)); done) | omega | (simp only [gz, Value.cells, oneC]; first | done | omega) | ((simp only [List.mem_cons, List.not_mem_nil, or_false, gz]); omega) | rfl)) only [↓gsd, gs, ev, Nat.reduceAdd, Nat.reduceEqDiff, oneC, Value.cells, Option.isNone, gt, ↓hk32, e0, e1, e7, e8, el, hvb, i0, i1, Int.toNat_natCast, Nat.mul_one, hob, hc0]
      by_cases hs : s = x
      · have hd : decide (s = x) = true := decide_eq_true hs
        have hfi : indexI (fun k => decide (s = k)) ks = i := by
          unfold indexI
          rw [findIdx?_at _ ks i x hx hd hno]
        rw [hfi] at hK
        simp (maxSteps := 4000000) (disch := (first | assumption | exact List.not_mem_nil | exact Fr.refl _ _ | ((repeat (first | assumption | apply cur_alloc | apply cur_setB | apply cur_drew | apply cur_drewN)); done) | omega | (simp only [gz, Value.cells, oneC]; first | done | omega) | ((simp only [List.mem_cons, List.not_mem_nil, or_false, gz]); omega) | rfl)) only [↓gsd, gs, ev, Nat.reduceAdd, Nat.reduceEqDiff, oneC, Value.cells, Option.isNone, gt, ↓hk32, e0, e1, e7, e8, el, hd]
        exact hK _ hf
      · have hd : decide (s = x) = false := decide_eq_false hs
        simp (maxSteps := 4000000) (disch := (first | assumption | exact List.not_mem_nil | exact Fr.refl _ _ | ((repeat (first | assumption | apply cur_alloc | apply cur_setB | apply cur_drew | apply cur_drewN)); done) | omega | (simp only [gz, Value.cells, oneC]; first | done | omega) | ((simp only [List.mem_cons, List.not_mem_nil, or_false, gz]); omega) | rfl)) only [↓gsd, gs, ev, Nat.reduceAdd, Nat.reduceEqDiff, oneC, Value.cells, Option.isNone, gt, ↓hk32, e0, e1, e7, e8, el, hd]
        refine hk _ _ ⟨i + 1, by omega, ?_⟩ ?_
        · simp (maxSteps := 4000000) (disch := (first | assumption | exact List.not_mem_nil | exact Fr.refl _ _ | ((repeat (first | assumption | apply cur_alloc | apply cur_setB | apply cur_drew | apply cur_drewN)); done) | omega | (simp only [gz, Value.cells, oneC]; first | done | omega) | ((simp only [List.mem_cons, List.not_mem_nil, or_false, gz]); omega) | rfl)) only [↓gsd, gs, ev, Nat.reduceAdd, Nat.reduceEqDiff, oneC, Value.cells, Option.isNone, e0, e1, e7, e8, hvb, Int.natCast_add, Int.natCast_one]
          refine ⟨fun j y hj hy => ?_, hf⟩
          by_cases hji : j = i
          · subst hji; rw [hx] at hy; cases hy; exact hd
          · exact hno j y (by omega) hy
        · have e3 : ((i : Int) + 1).toNat = i + 1 := by omega
          simp (maxSteps := 4000000) (disch := (first | assumption | exact List.not_mem_nil | exact Fr.refl _ _ | ((repeat (first | assumption | apply cur_alloc | apply cur_setB | apply cur_drew | apply cur_drewN)); done) | omega | (simp only [gz, Value.cells, oneC]; first | done | omega) | ((simp only [List.mem_cons, List.not_mem_nil, or_false, gz]); omega) | rfl)) only [↓gsd, gs, ev, Nat.reduceAdd, Nat.reduceEqDiff, oneC, Value.cells, Option.isNone, e8, numOf, Int.toNat_natCast, e3]; omega
    · have el : decide ((i : Int) < (ks.length : Int)) = false := decide_eq_false (by omega)
      have hfi : indexI (fun k => decide (s = k)) ks = -1 := by
        unfold indexI
        rw [findIdx?_no _ ks fun j y hy => hno j y (by have := (List.getElem?_eq_some_iff.1 hy).1; omega) hy]
      rw [hfi] at hK
      simp (maxSteps := 4000000) (disch := (first | assumption | exact List.not_mem_nil | exact Fr.refl _ _ | ((repeat (first | assumption | apply cur_alloc | apply cur_setB | apply cur_drew | apply cur_drewN)); done) | omega | (simp only [gz, Value.cells, oneC]; first | done | omega) | ((simp only [List.mem_cons, List.not_mem_nil, or_false, gz]); omega) | rfl)) only [↓gsd, gs, ev, Nat.reduceAdd, Nat.reduceEqDiff, oneC, Value.cells, Option.isNone, gt, ↓hk32, e0, e1, e7, e8, el]
      exact hK _ hf
theorem indexI_nonneg {α : Type} (p : α → Bool) (xs : List α) : decide (0 ≤ indexI p xs) = xs.any p := by
  unfold indexI
  cases h : xs.findIdx? p with
  | none =>
    rw [List.findIdx?_eq_none_iff] at h
    have : xs.any p = false := by
      rw [List.any_eq_false]
      intro x hx; simp [h x hx]
    simp [this]
  | some i =>
    obtain ⟨hi, hp, _⟩ := List.findIdx?_eq_some_iff_getElem.1 h
    have : xs.any p = true := List.any_eq_true.2 ⟨_, List.getElem_mem hi, hp⟩
    simp [this]
theorem contains_spec {w : World} {v : Value} {ks : List ByteArray} {s : ByteArray} {K : Value → World → Prop} (h : SlOf 1 encS w v ks) (hl : ks.length ≤ 9223372036854775806)
    (hK : ∀ w', Fr [] w w' → K (.bool (ks.any fun k => decide (s = k))) w') : CallsN Try.prog 23 [v, .string s] w K := by
  have cw := cur w
  refine call23 ?_
  simp (maxSteps := 4000000) (disch := (first | assumption | exact List.not_mem_nil | exact Fr.refl _ _ | ((repeat (first | assumption | apply cur_alloc | apply cur_setB | apply cur_drew | apply cur_drewN)); done) | omega | (simp only [gz, Value.cells, oneC]; first | done | omega) | ((simp only [List.mem_cons, List.not_mem_nil, or_false, gz]); omega) | rfl)) only [↓gsd, gs, ev, Nat.reduceAdd, Nat.reduceEqDiff, oneC, Value.cells, Option.isNone, gt, ↓hk23]
  refine index_spec h hl fun w1 hf1 => ?_
  have cw1 := cur w1
  have hz1 := hf1.size
  simp (maxSteps := 4000000) (disch := (first | assumption | exact List.not_mem_nil | exact Fr.refl _ _ | ((repeat (first | assumption | apply cur_alloc | apply cur_setB | apply cur_drew | apply cur_drewN)); done) | omega | (simp only [gz, Value.cells, oneC]; first | done | omega) | ((simp only [List.mem_cons, List.not_mem_nil, or_false, gz]); omega) | rfl)) only [↓gsd, gs, ev, Nat.reduceAdd, Nat.reduceEqDiff, oneC, Value.cells, Option.isNone, gt, ↓hk23, indexI_nonneg]
  exact hK _ hf1
end Go.Proofs.Ytenokheiindfkab
