/- slices.Clone of versions; sort.Search; Read. -/
import Derived.Test.YtenokheiindfkaaS2
set_option linter.unusedVariables false
set_option linter.unusedSimpArgs false
set_option maxRecDepth 10000
namespace Go.Proofs.Ytenokheiindfkaa
open Go.VW
theorem encVer_oneC (x : Ver) : (encVer x).all oneC = true := rfl
theorem clone_spec {v : Value} {xs : List Ver} {w : World} {K : Value → World → Prop} (h : SlOf 3 encVer w v xs) (hlen : xs.length ≤ 1000000)
    (hK : ∀ v' w', Own 3 106 w' v' xs.length (cellsOf encVer xs) → Fr [] w w' → (∀ b, v'.ownBlock = some b → w.heap.size ≤ b) → K v' w') : CallsN Try.prog 57 [v] w K := by
  obtain ⟨a, c, hv⟩ := h.form
  have cw := cur w
  refine call57 ?_
  cases a with
  | none =>
    have hx : xs = [] := List.eq_nil_of_length_eq_zero (Sl.none (hv ▸ h))
    simp (maxSteps := 4000000) (disch := (first | assumption | exact List.not_mem_nil | exact Fr.refl _ _ | ((repeat (first | assumption | apply cur_alloc | apply cur_setB | apply cur_drew | apply cur_drewN)); done) | omega | (simp only [gz, Value.cells, oneC]; first | done | omega) | ((simp only [List.mem_cons, List.not_mem_nil, or_false, gz]); omega) | rfl)) only [↓gsd, gs, ev, Nat.reduceAdd, Nat.reduceEqDiff, oneC, Value.cells, Option.isNone, gt, ↓hk57, hv]
    subst hx
    exact hK _ _ Own.nil (Fr.refl _ _) (by simp [Value.ownBlock])
  | some a =>
    obtain ⟨v', w', hr, ho, hf, hb⟩ := ap46 (ty := 46) (Own.new0 w) (h.frN ((Fr.refl [] w).alloc _)) (cells_oneC encVer_oneC xs) (by omega)
    rw [hv] at hr
    simp (maxSteps := 4000000) (disch := (first | assumption | exact List.not_mem_nil | exact Fr.refl _ _ | ((repeat (first | assumption | apply cur_alloc | apply cur_setB | apply cur_drew | apply cur_drewN)); done) | omega | (simp only [gz, Value.cells, oneC]; first | done | omega) | ((simp only [List.mem_cons, List.not_mem_nil, or_false, gz]); omega) | rfl)) only [↓gsd, gs, ev, Nat.reduceAdd, Nat.reduceEqDiff, oneC, Value.cells, Option.isNone, gt, ↓hk57, hv, hr]
    refine hK v' w' (by simpa using ho) (((Fr.refl [] w).alloc _).trans hf fun x hx => ?_) fun b hb' => ?_
    · simp only [blkL, Value.ownBlock, List.mem_singleton] at hx
      exact .inr (by omega)
    · rcases hb with hb | ⟨b', hb1, hb2⟩
      · rw [hb] at hb'
        simp only [Value.ownBlock, Option.some.injEq] at hb'
        omega
      · rw [hb1] at hb'
        simp only [Option.some.injEq] at hb'
        rw [size_alloc] at hb2
        omega
/-! ### Search -/
def idx (l : List Ver) (c : Int) : Nat := (l.takeWhile fun v => decide (v.n ≤ c)).length
theorem idx_eq {l : List Ver} {c : Int} {i : Nat} (hi : i ≤ l.length) (h1 : ∀ t x, t < i → l[t]? = some x → x.n ≤ c) (h2 : ∀ t x, i ≤ t → l[t]? = some x → c < x.n) : idx l c = i := by
  induction l generalizing i with
  | nil => simp at hi; simp [idx, hi]
  | cons a l ih =>
    cases i with
    | zero =>
      have := h2 0 a (Nat.le_refl _) rfl
      have h : ¬ a.n ≤ c := by omega
      simp [idx, h]
    | succ i =>
      have h : a.n ≤ c := h1 0 a (by omega) rfl
      have := ih (i := i) (by simpa using hi) (fun t x ht hx => h1 (t + 1) x (by omega) hx) (fun t x ht hx => h2 (t + 1) x (by omega) hx)
      simp only [idx] at this ⊢
      simp [h, this]
theorem cmp_spec {w : World} {i : Nat} {c : Int} {l : List Ver} {s : Value} {b8 b5 : Nat} {x : Ver} {K : Value → World → Prop} (h8 : w.heap[b8]? = some (.cells ([s] : List Value).toArray 46 (0, 0))) (h5 : w.heap[b5]? = some (.cells ([.int .i64 c] : List Value).toArray 2 (0, 0)))
    (hs : SlOf 3 encVer w s l) (hx : l[i]? = some x) (hK : ∀ w', Fr [] w w' → K (.bool (decide (c < x.n))) w') :
    CallsN Try.prog 55 [.int .i64 i, .pointer (some ⟨b8, 0, none⟩), .pointer (some ⟨b5, 0, none⟩)] w K := by
  have cw := cur w
  refine call55 ?_
  obtain ⟨bb, off, cap, o, hsv, ho, hbl, hrow, hcell⟩ := hs.read encVer_len i x hx
  have i0 : (0 : Int) ≤ (i : Int) := by omega
  have i1 : (i : Int) < (l.length : Int) := by
    have := (List.getElem?_eq_some_iff.1 hx).1; omega
  have hc0 := fun orig K => hcell 0 (.int .i64 x.n) orig K rfl
  simp only [Nat.add_zero] at hc0
  rw [hsv] at h8
  have cd := cur w.drew
  simp (maxSteps := 4000000) (disch := (first | assumption | exact List.not_mem_nil | exact Fr.refl _ _ | ((repeat (first | assumption | apply cur_alloc | apply cur_setB | apply cur_drew | apply cur_drewN)); done) | omega | (simp only [gz, Value.cells, oneC]; first | done | omega) | ((simp only [List.mem_cons, List.not_mem_nil, or_false, gz]); omega) | rfl)) only [↓gsd, gs, ev, Nat.reduceAdd, Nat.reduceEqDiff, oneC, Value.cells, Option.isNone, gt, ↓hk55]
  refine draw_intro [] ?_
  simp (maxSteps := 4000000) (disch := (first | assumption | exact List.not_mem_nil | exact Fr.refl _ _ | ((repeat (first | assumption | apply cur_alloc | apply cur_setB | apply cur_drew | apply cur_drewN)); done) | omega | (simp only [gz, Value.cells, oneC]; first | done | omega) | ((simp only [List.mem_cons, List.not_mem_nil, or_false, gz]); omega) | rfl)) only [↓gsd, gs, ev, Nat.reduceAdd, Nat.reduceEqDiff, oneC, Value.cells, Option.isNone, gt, ↓hk55, h8, h5, i0, i1, Int.toNat_natCast, ho, hc0]
  exact hK _ (Fr.refl _ _).drew
theorem search_spec {w : World} {c : Int} {l : List Ver} {s : Value} {b8 b5 : Nat} {K : Value → World → Prop} (h8 : w.heap[b8]? = some (.cells ([s] : List Value).toArray 46 (0, 0))) (h5 : w.heap[b5]? = some (.cells ([.int .i64 c] : List Value).toArray 2 (0, 0)))
    (hs : SlOf 3 encVer w s l) (hso : l.Pairwise fun a b => a.n < b.n) (hlen : l.length ≤ 1000000) (hK : ∀ w', Fr [] w w' → K (.int .i64 (idx l c)) w') :
    CallsN Try.prog 54 [.int .i64 l.length, .func (.func 55) #[] #[.pointer (some ⟨b8, 0, none⟩), .pointer (some ⟨b5, 0, none⟩)]] w K := by
  have cw := cur w
  refine call54 ?_
  simp (maxSteps := 4000000) (disch := (first | assumption | exact List.not_mem_nil | exact Fr.refl _ _ | ((repeat (first | assumption | apply cur_alloc | apply cur_setB | apply cur_drew | apply cur_drewN)); done) | omega | (simp only [gz, Value.cells, oneC]; first | done | omega) | ((simp only [List.mem_cons, List.not_mem_nil, or_false, gz]); omega) | rfl)) only [↓gsd, gs, ev, Nat.reduceAdd, Nat.reduceEqDiff, oneC, Value.cells, Option.isNone, gt, ↓hk54]
  refine loop_intro (fun e w' => ∃ i j : Nat, i ≤ j ∧ j ≤ l.length ∧ e 0 = .int .i64 l.length ∧ e 1 = .func (.func 55) #[] #[.pointer (some ⟨b8, 0, none⟩), .pointer (some ⟨b5, 0, none⟩)] ∧
      e 5 = .int .i64 i ∧ e 6 = .int .i64 j ∧ (∀ t x, t < i → l[t]? = some x → x.n ≤ c) ∧ (∀ t x, j ≤ t → l[t]? = some x → c < x.n) ∧ Fr [] w w')
    (fun e _ => (numOf (e 6)).toNat - (numOf (e 5)).toNat) ?_ ?_
  · refine ⟨0, l.length, by omega, by omega, ?_⟩
    simp (maxSteps := 4000000) (disch := (first | assumption | exact List.not_mem_nil | exact Fr.refl _ _ | ((repeat (first | assumption | apply cur_alloc | apply cur_setB | apply cur_drew | apply cur_drewN)); done) | omega | (simp only [gz, Value.cells, oneC]; first | done | omega) | ((simp only [List.mem_cons, List.not_mem_nil, or_false, gz]); omega) | rfl)) only [↓gsd, gs, ev, Nat.reduceAdd, Nat.reduceEqDiff, oneC, Value.cells, Option.isNone, Int.natCast_zero]
    refine ⟨fun t x ht => by omega, fun t x ht hx => ?_, Fr.refl _ _⟩
    rw [List.getElem?_eq_none ht] at hx; cases hx
  · rintro e w1 k ⟨i, j, hij, hj, e0, e1, e5, e6, h1, h2, hf⟩ hk
    have cw := cur w1
    by_cases hlt : i < j
    · have el : decide ((i : Int) < (j : Int)) = true := decide_eq_true (by omega)
      have hd : ((i : Int) + (j : Int)).fdiv 2 = (((i + j) / 2 : Nat) : Int) := by
        rw [Int.fdiv_eq_ediv_of_nonneg _ (by omega)]; omega
      obtain ⟨m, hm⟩ : ∃ m, m = (i + j) / 2 := ⟨_, rfl⟩
      rw [← hm] at hd
      have hml : m < l.length := by omega
      obtain ⟨x, hx⟩ : ∃ x, l[m]? = some x := ⟨l[m], List.getElem?_eq_getElem hml⟩
      simp (maxSteps := 4000000) (disch := (first | assumption | exact List.not_mem_nil | exact Fr.refl _ _ | ((repeat (first | assumption | apply cur_alloc | apply cur_setB | apply cur_drew | apply cur_drewN)); done) | omega | (simp only [gz, Value.cells, oneC]; first | done | omega) | ((simp only [List.mem_cons, List.not_mem_nil, or_false, gz]); omega) | rfl)) only [↓gsd, gs, ev, Nat.reduceAdd, Nat.reduceEqDiff, oneC, Value.cells, Option.isNone, gt, ↓hk54, e5, e6, el, hd, e1]
      refine cmp_spec (hf.getN h8) (hf.getN h5) (hs.frN hf) hx ?_
      intro w2 hf2
      have cw2 := cur w2
      have sorted : ∀ (t u : Nat) (y z : Ver), t < u → l[t]? = some y → l[u]? = some z → y.n < z.n := fun t u y z htu hy hz => by
        obtain ⟨h1, rfl⟩ := List.getElem?_eq_some_iff.1 hy
        obtain ⟨h2, rfl⟩ := List.getElem?_eq_some_iff.1 hz
        exact List.pairwise_iff_getElem.1 hso t u h1 h2 htu
      by_cases hc : c < x.n
      · have hc' : decide (c < x.n) = true := decide_eq_true hc
        simp (maxSteps := 4000000) (disch := (first | assumption | exact List.not_mem_nil | exact Fr.refl _ _ | ((repeat (first | assumption | apply cur_alloc | apply cur_setB | apply cur_drew | apply cur_drewN)); done) | omega | (simp only [gz, Value.cells, oneC]; first | done | omega) | ((simp only [List.mem_cons, List.not_mem_nil, or_false, gz]); omega) | rfl)) only [↓gsd, gs, ev, Nat.reduceAdd, Nat.reduceEqDiff, oneC, Value.cells, Option.isNone, gt, ↓hk54, hc', e5, e6]
        refine hk _ _ ⟨i, m, by omega, by omega, ?_, ?_, ?_, ?_, h1, ?_, hf.trans' hf2⟩ ?_
        · simp (maxSteps := 4000000) (disch := (first | assumption | exact List.not_mem_nil | exact Fr.refl _ _ | ((repeat (first | assumption | apply cur_alloc | apply cur_setB | apply cur_drew | apply cur_drewN)); done) | omega | (simp only [gz, Value.cells, oneC]; first | done | omega) | ((simp only [List.mem_cons, List.not_mem_nil, or_false, gz]); omega) | rfl)) only [↓gsd, gs, ev, Nat.reduceAdd, Nat.reduceEqDiff, oneC, Value.cells, Option.isNone, e0]
        · simp (maxSteps := 4000000) (disch := (first | assumption | exact List.not_mem_nil | exact Fr.refl _ _ | ((repeat (first | assumption | apply cur_alloc | apply cur_setB | apply cur_drew | apply cur_drewN)); done) | omega | (simp only [gz, Value.cells, oneC]; first | done | omega) | ((simp only [List.mem_cons, List.not_mem_nil, or_false, gz]); omega) | rfl)) only [↓gsd, gs, ev, Nat.reduceAdd, Nat.reduceEqDiff, oneC, Value.cells, Option.isNone, e1]
        · simp (maxSteps := 4000000) (disch := (first | assumption | exact List.not_mem_nil | exact Fr.refl _ _ | ((repeat (first | assumption | apply cur_alloc | apply cur_setB | apply cur_drew | apply cur_drewN)); done) | omega | (simp only [gz, Value.cells, oneC]; first | done | omega) | ((simp only [List.mem_cons, List.not_mem_nil, or_false, gz]); omega) | rfl)) only [↓gsd, gs, ev, Nat.reduceAdd, Nat.reduceEqDiff, oneC, Value.cells, Option.isNone, e5]
        · simp (maxSteps := 4000000) (disch := (first | assumption | exact List.not_mem_nil | exact Fr.refl _ _ | ((repeat (first | assumption | apply cur_alloc | apply cur_setB | apply cur_drew | apply cur_drewN)); done) | omega | (simp only [gz, Value.cells, oneC]; first | done | omega) | ((simp only [List.mem_cons, List.not_mem_nil, or_false, gz]); omega) | rfl)) only [↓gsd, gs, ev, Nat.reduceAdd, Nat.reduceEqDiff, oneC, Value.cells, Option.isNone]
        · intro t y ht hy
          rcases Nat.lt_or_ge m t with h | h
          · have := sorted m t x y h hx hy; omega
          · obtain rfl : t = m := by omega
            rw [hx] at hy; cases hy; exact hc
        · simp (maxSteps := 4000000) (disch := (first | assumption | exact List.not_mem_nil | exact Fr.refl _ _ | ((repeat (first | assumption | apply cur_alloc | apply cur_setB | apply cur_drew | apply cur_drewN)); done) | omega | (simp only [gz, Value.cells, oneC]; first | done | omega) | ((simp only [List.mem_cons, List.not_mem_nil, or_false, gz]); omega) | rfl)) only [↓gsd, gs, ev, Nat.reduceAdd, Nat.reduceEqDiff, oneC, Value.cells, Option.isNone, e5, e6, numOf, Int.toNat_natCast]; omega
      · have hc' : decide (c < x.n) = false := decide_eq_false hc
        simp (maxSteps := 4000000) (disch := (first | assumption | exact List.not_mem_nil | exact Fr.refl _ _ | ((repeat (first | assumption | apply cur_alloc | apply cur_setB | apply cur_drew | apply cur_drewN)); done) | omega | (simp only [gz, Value.cells, oneC]; first | done | omega) | ((simp only [List.mem_cons, List.not_mem_nil, or_false, gz]); omega) | rfl)) only [↓gsd, gs, ev, Nat.reduceAdd, Nat.reduceEqDiff, oneC, Value.cells, Option.isNone, gt, ↓hk54, hc', e5, e6]
        refine hk _ _ ⟨m + 1, j, by omega, by omega, ?_, ?_, ?_, ?_, ?_, h2, hf.trans' hf2⟩ ?_
        · simp (maxSteps := 4000000) (disch := (first | assumption | exact List.not_mem_nil | exact Fr.refl _ _ | ((repeat (first | assumption | apply cur_alloc | apply cur_setB | apply cur_drew | apply cur_drewN)); done) | omega | (simp only [gz, Value.cells, oneC]; first | done | omega) | ((simp only [List.mem_cons, List.not_mem_nil, or_false, gz]); omega) | rfl)) only [↓gsd, gs, ev, Nat.reduceAdd, Nat.reduceEqDiff, oneC, Value.cells, Option.isNone, e0]
        · simp (maxSteps := 4000000) (disch := (first | assumption | exact List.not_mem_nil | exact Fr.refl _ _ | ((repeat (first | assumption | apply cur_alloc | apply cur_setB | apply cur_drew | apply cur_drewN)); done) | omega | (simp only [gz, Value.cells, oneC]; first | done | omega) | ((simp only [List.mem_cons, List.not_mem_nil, or_false, gz]); omega) | rfl)) only [↓gsd, gs, ev, Nat.reduceAdd, Nat.reduceEqDiff, oneC, Value.cells, Option.isNone, e1]
        · simp (maxSteps := 4000000) (disch := (first | assumption | exact List.not_mem_nil | exact Fr.refl _ _ | ((repeat (first | assumption | apply cur_alloc | apply cur_setB | apply cur_drew | apply cur_drewN)); done) | omega | (simp only [gz, Value.cells, oneC]; first | done | omega) | ((simp only [List.mem_cons, List.not_mem_nil, or_false, gz]); omega) | rfl)) only [↓gsd, gs, ev, Nat.reduceAdd, Nat.reduceEqDiff, oneC, Value.cells, Option.isNone, Int.natCast_add, Int.natCast_one]
        · simp (maxSteps := 4000000) (disch := (first | assumption | exact List.not_mem_nil | exact Fr.refl _ _ | ((repeat (first | assumption | apply cur_alloc | apply cur_setB | apply cur_drew | apply cur_drewN)); done) | omega | (simp only [gz, Value.cells, oneC]; first | done | omega) | ((simp only [List.mem_cons, List.not_mem_nil, or_false, gz]); omega) | rfl)) only [↓gsd, gs, ev, Nat.reduceAdd, Nat.reduceEqDiff, oneC, Value.cells, Option.isNone, e6]
        · intro t y ht hy
          rcases Nat.lt_or_ge t m with h | h
          · have := sorted t m y x h hy hx; omega
          · obtain rfl : t = m := by omega
            rw [hx] at hy; cases hy; omega
        · have e3 : ((m : Int) + 1).toNat = m + 1 := by omega
          simp (maxSteps := 4000000) (disch := (first | assumption | exact List.not_mem_nil | exact Fr.refl _ _ | ((repeat (first | assumption | apply cur_alloc | apply cur_setB | apply cur_drew | apply cur_drewN)); done) | omega | (simp only [gz, Value.cells, oneC]; first | done | omega) | ((simp only [List.mem_cons, List.not_mem_nil, or_false, gz]); omega) | rfl)) only [↓gsd, gs, ev, Nat.reduceAdd, Nat.reduceEqDiff, oneC, Value.cells, Option.isNone, e5, e6, numOf, Int.toNat_natCast, e3]; omega
    · have el : decide ((i : Int) < (j : Int)) = false := decide_eq_false (by omega)
      obtain rfl : i = j := by omega
      have := idx_eq hj h1 h2
      have hK' := hK w1 hf
      rw [this] at hK'
      simp (maxSteps := 4000000) (disch := (first | assumption | exact List.not_mem_nil | exact Fr.refl _ _ | ((repeat (first | assumption | apply cur_alloc | apply cur_setB | apply cur_drew | apply cur_drewN)); done) | omega | (simp only [gz, Value.cells, oneC]; first | done | omega) | ((simp only [List.mem_cons, List.not_mem_nil, or_false, gz]); omega) | rfl)) only [↓gsd, gs, ev, Nat.reduceAdd, Nat.reduceEqDiff, oneC, Value.cells, Option.isNone, gt, ↓hk54, e5, e6, el]
      exact hK'
end Go.Proofs.Ytenokheiindfkaa
