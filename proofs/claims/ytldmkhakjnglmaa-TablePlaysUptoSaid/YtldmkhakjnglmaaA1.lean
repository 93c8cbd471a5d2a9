/- Table: entries; the place of an entry (slices.BinarySearchFunc). -/
import Derived.Test.YtldmkhakjnglmaaK1
import Derived.Test.YtldmkhakjnglmaaCF
set_option linter.unusedVariables false
set_option linter.unusedSimpArgs false
set_option maxRecDepth 10000
namespace Go.Proofs.Ytldmkhakjnglmaa
open Go.VW
structure Ent where
  key : ByteArray
  has : Bool
  data : ByteArray
  lo : Int
  hi : Int
  hot : Bool
  stamp : Int
  ins : Int
def encEnt (e : Ent) : List Value := [.string e.key, .bool e.has, .string e.data, .int .i64 e.lo, .int .i64 e.hi, .bool e.hot, .int .i64 e.stamp, .int .i64 e.ins]
theorem encEnt_len (e : Ent) : (encEnt e).length = 8 := rfl
abbrev Ents := List Ent
def SortE (l : Ents) : Prop := l.Pairwise fun a b => a.lo < b.lo
def idxE (l : Ents) (lo : Int) : Nat := (l.takeWhile fun e => decide (e.lo < lo)).length
def hasE (l : Ents) (lo : Int) : Bool := match l[idxE l lo]? with | some e => decide (e.lo = lo) | none => false
theorem idxE_le (l : Ents) (lo : Int) : idxE l lo ≤ l.length := by
  unfold idxE
  exact List.IsPrefix.length_le (List.takeWhile_prefix _)
theorem idxE_lt {l : Ents} (hs : SortE l) {lo : Int} : ∀ {t : Nat} {e : Ent}, l[t]? = some e → (t < idxE l lo ↔ e.lo < lo) := by
  induction l with
  | nil => intro t e h; simp at h
  | cons x l ih =>
    intro t e h
    unfold SortE at hs
    rw [List.pairwise_cons] at hs
    unfold idxE
    rw [List.takeWhile_cons]
    by_cases hx : x.lo < lo
    · rw [if_pos (decide_eq_true hx)]
      cases t with
      | zero => simp at h; subst h; simp [hx]
      | succ t =>
        have := @ih hs.2 t e (by simpa using h)
        unfold idxE at this
        simpa using this
    · rw [if_neg (by simp; omega)]
      cases t with
      | zero => simp at h; subst h; simp [hx]
      | succ t =>
        have := hs.1 e (List.mem_of_getElem? (by simpa using h : l[t]? = some e))
        simp
        omega
theorem nan_spec {x : Int} {w : World} {K : Value → World → Prop} (hK : K (.bool false) w) : CallsN Try.prog 60 [.int .i64 x] w K := by
  have cw := cur w
  refine call60 ?_
  have d : decide (x = x) = true := decide_eq_true rfl
  simp (maxSteps := 4000000) (disch := (first | assumption | exact List.not_mem_nil | exact Fr.refl _ _ | ((repeat (first | assumption | apply cur_alloc | apply cur_setB | apply cur_drew | apply cur_drewN)); done) | omega | (simp only [gz, Value.cells, oneC]; first | done | omega) | ((simp only [List.mem_cons, List.not_mem_nil, or_false, gz]); omega) | rfl)) only [↓gsd, gs, ev, Nat.reduceAdd, Nat.reduceEqDiff, oneC, Value.cells, Option.isNone, gt, frT_self, frT_drew, frT_drew0, frT_alloc, ↓hk60, d]
  exact hK
def cmpI (x y : Int) : Int := if x < y then -1 else if y < x then 1 else 0
theorem cmp_spec {x y : Int} {w : World} {K : Value → World → Prop} (hK : K (.int .i64 (cmpI x y)) w) : CallsN Try.prog 46 [.int .i64 x, .int .i64 y] w K := by
  have cw := cur w
  refine call46 ?_
  simp (maxSteps := 4000000) (disch := (first | assumption | exact List.not_mem_nil | exact Fr.refl _ _ | ((repeat (first | assumption | apply cur_alloc | apply cur_setB | apply cur_drew | apply cur_drewN)); done) | omega | (simp only [gz, Value.cells, oneC]; first | done | omega) | ((simp only [List.mem_cons, List.not_mem_nil, or_false, gz]); omega) | rfl)) only [↓gsd, gs, ev, Nat.reduceAdd, Nat.reduceEqDiff, oneC, Value.cells, Option.isNone, gt, frT_self, frT_drew, frT_drew0, frT_alloc, ↓hk46]
  refine nan_spec ?_
  simp (maxSteps := 4000000) (disch := (first | assumption | exact List.not_mem_nil | exact Fr.refl _ _ | ((repeat (first | assumption | apply cur_alloc | apply cur_setB | apply cur_drew | apply cur_drewN)); done) | omega | (simp only [gz, Value.cells, oneC]; first | done | omega) | ((simp only [List.mem_cons, List.not_mem_nil, or_false, gz]); omega) | rfl)) only [↓gsd, gs, ev, Nat.reduceAdd, Nat.reduceEqDiff, oneC, Value.cells, Option.isNone, gt, frT_self, frT_drew, frT_drew0, frT_alloc, ↓hk46]
  refine nan_spec ?_
  unfold cmpI at hK
  by_cases h1 : x < y
  · have d1 : decide (x < y) = true := decide_eq_true h1
    rw [if_pos h1] at hK
    simp (maxSteps := 4000000) (disch := (first | assumption | exact List.not_mem_nil | exact Fr.refl _ _ | ((repeat (first | assumption | apply cur_alloc | apply cur_setB | apply cur_drew | apply cur_drewN)); done) | omega | (simp only [gz, Value.cells, oneC]; first | done | omega) | ((simp only [List.mem_cons, List.not_mem_nil, or_false, gz]); omega) | rfl)) only [↓gsd, gs, ev, Nat.reduceAdd, Nat.reduceEqDiff, oneC, Value.cells, Option.isNone, gt, frT_self, frT_drew, frT_drew0, frT_alloc, ↓hk46, d1]
    exact hK
  · have d1 : decide (x < y) = false := decide_eq_false h1
    rw [if_neg h1] at hK
    by_cases h2 : y < x
    · have d2 : decide (y < x) = true := decide_eq_true h2
      rw [if_pos h2] at hK
      simp (maxSteps := 4000000) (disch := (first | assumption | exact List.not_mem_nil | exact Fr.refl _ _ | ((repeat (first | assumption | apply cur_alloc | apply cur_setB | apply cur_drew | apply cur_drewN)); done) | omega | (simp only [gz, Value.cells, oneC]; first | done | omega) | ((simp only [List.mem_cons, List.not_mem_nil, or_false, gz]); omega) | rfl)) only [↓gsd, gs, ev, Nat.reduceAdd, Nat.reduceEqDiff, oneC, Value.cells, Option.isNone, gt, frT_self, frT_drew, frT_drew0, frT_alloc, ↓hk46, d1, d2]
      exact hK
    · have d2 : decide (y < x) = false := decide_eq_false h2
      rw [if_neg h2] at hK
      simp (maxSteps := 4000000) (disch := (first | assumption | exact List.not_mem_nil | exact Fr.refl _ _ | ((repeat (first | assumption | apply cur_alloc | apply cur_setB | apply cur_drew | apply cur_drewN)); done) | omega | (simp only [gz, Value.cells, oneC]; first | done | omega) | ((simp only [List.mem_cons, List.not_mem_nil, or_false, gz]); omega) | rfl)) only [↓gsd, gs, ev, Nat.reduceAdd, Nat.reduceEqDiff, oneC, Value.cells, Option.isNone, gt, frT_self, frT_drew, frT_drew0, frT_alloc, ↓hk46, d1, d2]
      exact hK
theorem cmpE_spec {e : Ent} {lo : Int} {w : World} {K : Value → World → Prop} (hK : ∀ w', Fr [] w w' → K (.int .i64 (cmpI e.lo lo)) w') : CallsN Try.prog 45 [.agg (encEnt e).toArray, .int .i64 lo] w K := by
  have cw := cur w
  refine call45 ?_
  unfold encEnt
  simp (maxSteps := 4000000) (disch := (first | assumption | exact List.not_mem_nil | exact Fr.refl _ _ | ((repeat (first | assumption | apply cur_alloc | apply cur_setB | apply cur_drew | apply cur_drewN)); done) | omega | (simp only [gz, Value.cells, oneC]; first | done | omega) | ((simp only [List.mem_cons, List.not_mem_nil, or_false, gz]); omega) | rfl)) only [↓gsd, gs, ev, Nat.reduceAdd, Nat.reduceEqDiff, oneC, Value.cells, Option.isNone, gt, frT_self, frT_drew, frT_drew0, frT_alloc, ↓hk45]
  refine cmp_spec ?_
  try simp (maxSteps := 4000000) (disch := (first | assumption | exact List.not_mem_nil | exact Fr.refl _ _ | ((repeat (first | assumption | apply cur_alloc | apply cur_setB | apply cur_drew | apply cur_drewN)); done) | omega | (simp only [gz, Value.cells, oneC]; first | done | omega) | ((simp only [List.mem_cons, List.not_mem_nil, or_false, gz]); omega) | rfl)) only [↓gsd, gs, ev, Nat.reduceAdd, Nat.reduceEqDiff, oneC, Value.cells, Option.isNone, gt, frT_self, frT_drew, frT_drew0, frT_alloc, ↓hk45]
  exact hK _ (by (repeat (first | exact Fr.refl _ _ | assumption | with_reducible apply Fr.alloc | with_reducible apply Fr.drew | with_reducible refine Fr.setB ?_ _ _ (.inr (by first | omega | (simp only [gz]; omega))) | with_reducible refine Fr.setB ?_ _ _ (.inl (by first | assumption | simp)) | with_reducible refine Fr.trans' ?_ (by assumption))))
set_option maxHeartbeats 4000000 in
theorem bs_spec {w : World} {v : Value} {l : Ents} {lo : Int} {K : Value → World → Prop} (h : SlOf 8 encEnt w v l) (hs : SortE l) (hl : l.length ≤ 1000000000000)
    (hK : ∀ w', Fr [] w w' → K (.tuple ([.int .i64 (idxE l lo), .bool (hasE l lo)] : List Value).toArray) w') : CallsN Try.prog 44 [v, .int .i64 lo, .func (.func 45) #[] #[]] w K := by
  have cw := cur w
  obtain ⟨va, vc, hv⟩ := h.form
  have hil := idxE_le l lo
  have d0 : decide ((0 : Int) = 0) = true := rfl
  refine call44 ?_
  simp (maxSteps := 4000000) (disch := (first | assumption | exact List.not_mem_nil | exact Fr.refl _ _ | ((repeat (first | assumption | apply cur_alloc | apply cur_setB | apply cur_drew | apply cur_drewN)); done) | omega | (simp only [gz, Value.cells, oneC]; first | done | omega) | ((simp only [List.mem_cons, List.not_mem_nil, or_false, gz]); omega) | rfl)) only [↓gsd, gs, ev, Nat.reduceAdd, Nat.reduceEqDiff, oneC, Value.cells, Option.isNone, gt, frT_self, frT_drew, frT_drew0, frT_alloc, ↓hk44, hv]
  rw [← hv]
  refine loop_intro (fun e w' => ∃ (i j : Nat), i ≤ idxE l lo ∧ idxE l lo ≤ j ∧ j ≤ l.length ∧ e 0 = v ∧ e 1 = .int .i64 lo ∧ e 2 = .func (.func 45) #[] #[] ∧ e 8 = .int .i64 l.length ∧ e 9 = .int .i64 i ∧ e 10 = .int .i64 j ∧ Fr [] w w')
    (fun e _ => (numOf (e 10)).toNat - (numOf (e 9)).toNat) ?_ ?_
  · refine ⟨0, l.length, Nat.zero_le _, hil, Nat.le_refl _, ?_⟩
    simp (maxSteps := 4000000) (disch := (first | assumption | exact List.not_mem_nil | exact Fr.refl _ _ | ((repeat (first | assumption | apply cur_alloc | apply cur_setB | apply cur_drew | apply cur_drewN)); done) | omega | (simp only [gz, Value.cells, oneC]; first | done | omega) | ((simp only [List.mem_cons, List.not_mem_nil, or_false, gz]); omega) | rfl)) only [↓gsd, gs, ev, Nat.reduceAdd, Nat.reduceEqDiff, oneC, Value.cells, Option.isNone, hv, Int.natCast_zero]
    exact Fr.refl _ _
  rintro e w1 k ⟨i, j, hi, hj, hjl, e0, e1, e2, e8, e9, e10, hf⟩ hk
  have cw1 := cur w1
  have hz1 := hf.size
  by_cases hij : i < j
  · have d : decide ((i : Int) < (j : Int)) = true := decide_eq_true (by omega)
    obtain ⟨m, hm⟩ : ∃ m, m = (i + j) / 2 := ⟨_, rfl⟩
    have hmj : m < j := by omega
    have him : i ≤ m := by omega
    obtain ⟨x, hx⟩ : ∃ x, l[m]? = some x := ⟨l[m]'(by omega), List.getElem?_eq_getElem (by omega)⟩
    obtain ⟨bb, off, cap, ob, hv1, hob, _, hrow, _⟩ := (h.frN hf).read encEnt_len m x hx
    have hlt := idxE_lt hs (lo := lo) hx
    have hw : IntKind.i64.wrap (((i : Int) + (j : Int)).fdiv 2) = (m : Int) := by
      rw [Int.fdiv_eq_ediv_of_nonneg _ (by decide), wrap64 (by omega) (by omega)]; omega
    have m0 : (0 : Int) ≤ (m : Int) := by omega
    have m1 : (m : Int) < (l.length : Int) := by omega
    simp (maxSteps := 4000000) (disch := (first | assumption | exact List.not_mem_nil | exact Fr.refl _ _ | ((repeat (first | assumption | apply cur_alloc | apply cur_setB | apply cur_drew | apply cur_drewN)); done) | omega | (simp only [gz, Value.cells, oneC]; first | done | omega) | ((simp only [List.mem_cons, List.not_mem_nil, or_false, gz]); omega) | rfl)) only [↓gsd, gs, ev, Nat.reduceAdd, Nat.reduceEqDiff, oneC, Value.cells, Option.isNone, gt, frT_self, frT_drew, frT_drew0, frT_alloc, ↓hk44, e0, e1, e2, e8, e9, e10, d, hw, hv1, m0, m1, Int.toNat_natCast, hob, hrow, encEnt]
    refine cmpE_spec fun w2 hf2 => ?_
    have cw2 := cur w2
    unfold cmpI
    by_cases hc : x.lo < lo
    · have := hlt.2 hc
      have dc : decide ((-1 : Int) < 0) = true := rfl
      rw [if_pos hc]
      have wr : IntKind.i64.wrap ((m : Int) + 1) = ((m + 1 : Nat) : Int) := by rw [wrap64 (by omega) (by omega)]; omega
      simp (maxSteps := 4000000) (disch := (first | assumption | exact List.not_mem_nil | exact Fr.refl _ _ | ((repeat (first | assumption | apply cur_alloc | apply cur_setB | apply cur_drew | apply cur_drewN)); done) | omega | (simp only [gz, Value.cells, oneC]; first | done | omega) | ((simp only [List.mem_cons, List.not_mem_nil, or_false, gz]); omega) | rfl)) only [↓gsd, gs, ev, Nat.reduceAdd, Nat.reduceEqDiff, oneC, Value.cells, Option.isNone, gt, frT_self, frT_drew, frT_drew0, frT_alloc, ↓hk44, e0, e1, e2, e8, e9, e10, dc, wr]
      refine hk _ _ ⟨m + 1, j, by omega, hj, hjl, ?_⟩ ?_
      · simp (maxSteps := 4000000) (disch := (first | assumption | exact List.not_mem_nil | exact Fr.refl _ _ | ((repeat (first | assumption | apply cur_alloc | apply cur_setB | apply cur_drew | apply cur_drewN)); done) | omega | (simp only [gz, Value.cells, oneC]; first | done | omega) | ((simp only [List.mem_cons, List.not_mem_nil, or_false, gz]); omega) | rfl)) only [↓gsd, gs, ev, Nat.reduceAdd, Nat.reduceEqDiff, oneC, Value.cells, Option.isNone, e0, e1, e2, e8, e9, e10]
        exact hf.trans' hf2
      · simp (maxSteps := 4000000) (disch := (first | assumption | exact List.not_mem_nil | exact Fr.refl _ _ | ((repeat (first | assumption | apply cur_alloc | apply cur_setB | apply cur_drew | apply cur_drewN)); done) | omega | (simp only [gz, Value.cells, oneC]; first | done | omega) | ((simp only [List.mem_cons, List.not_mem_nil, or_false, gz]); omega) | rfl)) only [↓gsd, gs, ev, Nat.reduceAdd, Nat.reduceEqDiff, oneC, Value.cells, Option.isNone, e9, e10, numOf, Int.toNat_natCast]; omega
    · have hn : ¬ m < idxE l lo := fun q => hc (hlt.1 q)
      have dc : decide ((if x.lo < lo then (-1 : Int) else if lo < x.lo then 1 else 0) < 0) = false := by
        rw [if_neg hc]; split <;> rfl
      simp (maxSteps := 4000000) (disch := (first | assumption | exact List.not_mem_nil | exact Fr.refl _ _ | ((repeat (first | assumption | apply cur_alloc | apply cur_setB | apply cur_drew | apply cur_drewN)); done) | omega | (simp only [gz, Value.cells, oneC]; first | done | omega) | ((simp only [List.mem_cons, List.not_mem_nil, or_false, gz]); omega) | rfl)) only [↓gsd, gs, ev, Nat.reduceAdd, Nat.reduceEqDiff, oneC, Value.cells, Option.isNone, gt, frT_self, frT_drew, frT_drew0, frT_alloc, ↓hk44, e0, e1, e2, e8, e9, e10, dc]
      refine hk _ _ ⟨i, m, hi, by omega, by omega, ?_⟩ ?_
      · simp (maxSteps := 4000000) (disch := (first | assumption | exact List.not_mem_nil | exact Fr.refl _ _ | ((repeat (first | assumption | apply cur_alloc | apply cur_setB | apply cur_drew | apply cur_drewN)); done) | omega | (simp only [gz, Value.cells, oneC]; first | done | omega) | ((simp only [List.mem_cons, List.not_mem_nil, or_false, gz]); omega) | rfl)) only [↓gsd, gs, ev, Nat.reduceAdd, Nat.reduceEqDiff, oneC, Value.cells, Option.isNone, e0, e1, e2, e8, e9, e10]
        exact hf.trans' hf2
      · simp (maxSteps := 4000000) (disch := (first | assumption | exact List.not_mem_nil | exact Fr.refl _ _ | ((repeat (first | assumption | apply cur_alloc | apply cur_setB | apply cur_drew | apply cur_drewN)); done) | omega | (simp only [gz, Value.cells, oneC]; first | done | omega) | ((simp only [List.mem_cons, List.not_mem_nil, or_false, gz]); omega) | rfl)) only [↓gsd, gs, ev, Nat.reduceAdd, Nat.reduceEqDiff, oneC, Value.cells, Option.isNone, e9, e10, numOf, Int.toNat_natCast]; omega
  · have d : decide ((i : Int) < (j : Int)) = false := decide_eq_false (by omega)
    obtain rfl : i = idxE l lo := by omega
    by_cases hin : idxE l lo < l.length
    · have d2 : decide ((idxE l lo : Int) < (l.length : Int)) = true := decide_eq_true (by omega)
      obtain ⟨x, hx⟩ : ∃ x, l[idxE l lo]? = some x := ⟨l[idxE l lo], List.getElem?_eq_getElem hin⟩
      obtain ⟨bb, off, cap, ob, hv1, hob, _, hrow, _⟩ := (h.frN hf).read encEnt_len _ x hx
      have m0 : (0 : Int) ≤ (idxE l lo : Int) := by omega
      have m1 : (idxE l lo : Int) < (l.length : Int) := by omega
      have hlt := idxE_lt hs (lo := lo) hx
      have hc : ¬ x.lo < lo := fun q => Nat.lt_irrefl _ (hlt.2 q)
      simp (maxSteps := 4000000) (disch := (first | assumption | exact List.not_mem_nil | exact Fr.refl _ _ | ((repeat (first | assumption | apply cur_alloc | apply cur_setB | apply cur_drew | apply cur_drewN)); done) | omega | (simp only [gz, Value.cells, oneC]; first | done | omega) | ((simp only [List.mem_cons, List.not_mem_nil, or_false, gz]); omega) | rfl)) only [↓gsd, gs, ev, Nat.reduceAdd, Nat.reduceEqDiff, oneC, Value.cells, Option.isNone, gt, frT_self, frT_drew, frT_drew0, frT_alloc, ↓hk44, e0, e1, e2, e8, e9, e10, d, d2, hv1, m0, m1, Int.toNat_natCast, hob, hrow, encEnt]
      refine cmpE_spec fun w2 hf2 => ?_
      have cw2 := cur w2
      have hh : decide (cmpI x.lo lo = 0) = hasE l lo := by
        unfold hasE cmpI
        rw [hx, if_neg hc]
        by_cases q : lo < x.lo
        · rw [if_pos q]; simp; omega
        · rw [if_neg q]; simp; omega
      simp (maxSteps := 4000000) (disch := (first | assumption | exact List.not_mem_nil | exact Fr.refl _ _ | ((repeat (first | assumption | apply cur_alloc | apply cur_setB | apply cur_drew | apply cur_drewN)); done) | omega | (simp only [gz, Value.cells, oneC]; first | done | omega) | ((simp only [List.mem_cons, List.not_mem_nil, or_false, gz]); omega) | rfl)) only [↓gsd, gs, ev, Nat.reduceAdd, Nat.reduceEqDiff, oneC, Value.cells, Option.isNone, gt, frT_self, frT_drew, frT_drew0, frT_alloc, ↓hk44, e0, e1, e2, e8, e9, e10, hh]
      exact hK _ (hf.trans' hf2)
    · have d2 : decide ((idxE l lo : Int) < (l.length : Int)) = false := decide_eq_false (by omega)
      have hh : hasE l lo = false := by
        unfold hasE
        rw [List.getElem?_eq_none (by omega)]
      rw [hh] at hK
      simp (maxSteps := 4000000) (disch := (first | assumption | exact List.not_mem_nil | exact Fr.refl _ _ | ((repeat (first | assumption | apply cur_alloc | apply cur_setB | apply cur_drew | apply cur_drewN)); done) | omega | (simp only [gz, Value.cells, oneC]; first | done | omega) | ((simp only [List.mem_cons, List.not_mem_nil, or_false, gz]); omega) | rfl)) only [↓gsd, gs, ev, Nat.reduceAdd, Nat.reduceEqDiff, oneC, Value.cells, Option.isNone, gt, frT_self, frT_drew, frT_drew0, frT_alloc, ↓hk44, e0, e1, e2, e8, e9, e10, d, d2]
      exact hK _ hf
end Go.Proofs.Ytldmkhakjnglmaa
