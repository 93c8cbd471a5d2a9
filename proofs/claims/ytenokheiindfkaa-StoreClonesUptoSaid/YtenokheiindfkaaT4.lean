/- The reference: Truth, Read. -/
import Derived.Test.YtenokheiindfkaaT3
set_option linter.unusedVariables false
set_option linter.unusedSimpArgs false
set_option maxRecDepth 10000
namespace Go.Proofs.Ytenokheiindfkaa
open Go.VW
/-- The last version that is no newer than c. -/
def loF (l : List Ver) (c : Int) : Option Ver := l.foldl (fun p v => if v.n ≤ c then some v else p) none
theorem loF_snoc (l : List Ver) (x : Ver) (c : Int) : loF (l ++ [x]) c = if x.n ≤ c then some x else loF l c := by
  unfold loF; rw [List.foldl_append]; rfl
theorem loF_prev (c : Int) : ∀ l : List Ver, l.Pairwise (fun a b => a.n < b.n) → loF l c = prev l (idx l c) := by
  apply list_snoc
  · intro _; rfl
  · intro l x ih hs
    rw [loF_snoc]
    rw [List.pairwise_append] at hs
    obtain ⟨h1, _, h3⟩ := hs
    have hidx : idx (l ++ [x]) c = if x.n ≤ c then l.length + 1 else idx l c := by
      by_cases hx : x.n ≤ c
      · rw [if_pos hx]
        refine idx_eq (by simp) (fun t y ht hy => ?_) (fun t y ht hy => ?_)
        · by_cases htl : t < l.length
          · rw [List.getElem?_append_left htl] at hy
            have := h3 y (List.mem_of_getElem? hy) x (by simp)
            omega
          · have : t = l.length := by omega
            subst this
            rw [List.getElem?_concat_length] at hy; cases hy; exact hx
        · rw [List.getElem?_eq_none (by simp; omega)] at hy; cases hy
      · rw [if_neg hx]
        have hle := idx_le l c
        refine idx_eq (by simp; omega) (fun t y ht hy => ?_) (fun t y ht hy => ?_)
        · rw [List.getElem?_append_left (by omega)] at hy
          exact idx_le_n t y ht hy
        · by_cases htl : t < l.length
          · rw [List.getElem?_append_left htl] at hy
            by_cases hti : t = idx l c
            · subst hti; exact idx_gt_n y hy
            · obtain ⟨z, hz⟩ : ∃ z, l[idx l c]? = some z := ⟨l[idx l c]'(by omega), List.getElem?_eq_getElem (by omega)⟩
              have a1 := idx_gt_n z hz
              obtain ⟨g1, g2⟩ := List.getElem?_eq_some_iff.1 hz
              obtain ⟨g3, g4⟩ := List.getElem?_eq_some_iff.1 hy
              have a2 := List.pairwise_iff_getElem.1 h1 (idx l c) t g1 g3 (by omega)
              rw [g2, g4] at a2
              omega
          · have hlt := (List.getElem?_eq_some_iff.1 hy).1
            simp only [List.length_append, List.length_cons, List.length_nil] at hlt
            have : t = l.length := by omega
            subst this
            rw [List.getElem?_concat_length] at hy; cases hy; omega
    rw [hidx]
    by_cases hx : x.n ≤ c
    · rw [if_pos hx, if_pos hx]
      unfold prev
      rw [if_neg (by omega), Nat.add_sub_cancel, List.getElem?_concat_length]
    · rw [if_neg hx, if_neg hx, ih h1]
      unfold prev
      have hle := idx_le l c
      split
      · rfl
      · rw [List.getElem?_append_left (by omega)]
def hiF (l : List Ver) (c : Int) : Option Ver := l.find? fun v => decide (c < v.n)
theorem hiF_idx (l : List Ver) (c : Int) : hiF l c = l[idx l c]? := by
  unfold hiF idx
  induction l with
  | nil => rfl
  | cons x l ih =>
    by_cases hx : x.n ≤ c
    · have h2 : decide (c < x.n) = false := decide_eq_false (by omega)
      rw [List.find?_cons, h2, List.takeWhile_cons, decide_eq_true hx]
      simpa using ih
    · have h2 : decide (c < x.n) = true := decide_eq_true (by omega)
      rw [List.find?_cons, h2, List.takeWhile_cons, decide_eq_false hx]
      simp
theorem hiF_drop (l : List Ver) (c : Int) {j : Nat} {x : Ver} (hx : l[j]? = some x) : hiF (l.drop j) c = if c < x.n then some x else hiF (l.drop (j + 1)) c := by
  obtain ⟨h1, h2⟩ := List.getElem?_eq_some_iff.1 hx
  rw [List.drop_eq_getElem_cons h1, h2]
  unfold hiF
  rw [List.find?_cons]
  by_cases hc : c < x.n
  · rw [decide_eq_true hc, if_pos hc]
  · rw [decide_eq_false hc, if_neg hc]
/-- A fact of a version that begins it and one that ends it. -/
def fOf (key : ByteArray) (a b : Option Ver) : Fact := ⟨key, (a.map (·.has)).getD false, (a.map (·.data)).getD ⟨#[]⟩, (a.map (·.n)).getD 0, (b.map (·.n)).getD 4611686018427387904⟩
theorem ver_read {w : World} {v : Value} {l : List Ver} {i : Nat} {x : Ver} (h : SlOf 3 encVer w v l) (hx : l[i]? = some x) : ∃ b off cap o, v = .slice (some ⟨b, off, none⟩) l.length cap ∧ w.heap[b]? = some o ∧ b < w.heap.size ∧ (∀ orig K, ldV orig (some o) (off + i * 3) K = K (.int .i64 x.n)) ∧
    (∀ orig K, ldnV orig 2 (some o) (off + i * 3 + 1) K = K (.agg ([.bool x.has, .string x.data] : List Value).toArray)) := by
  obtain ⟨b, off, cap, o, hv, ho, hl, hr, hc⟩ := h.read encVer_len i x hx
  exact ⟨b, off, cap, o, hv, ho, hl, fun orig K => by have := hc 0 (.int .i64 x.n) orig K rfl; simpa using this, fun orig K => hpair encVer_len h hx hv ho orig K⟩
set_option maxHeartbeats 16000000 in
theorem r5truth {w : World} {rb most : Nat} {v : Value} {own : List (List Wr)} {key : ByteArray} {c : Int} {K : Value → World → Prop} (h : R5At w rb v most own) (hl : (past own).length ≤ 100000000)
    (hK : ∀ w', Fr [] w w' → K (.agg (encFact (fOf key (loF (allP (past own) key) c) (hiF (allP (past own) key) c))).toArray) w') : CallsN Try.prog 95 [.pointer (some ⟨rb, 0, none⟩), .string key, .int .i64 c] w K := by
  have cw := cur w
  refine call95 ?_
  simp (maxSteps := 4000000) (disch := (first | assumption | exact List.not_mem_nil | exact Fr.refl _ _ | ((repeat (first | assumption | apply cur_alloc | apply cur_setB | apply cur_drew | apply cur_drewN)); done) | omega | (simp only [gz, Value.cells, oneC]; first | done | omega) | ((simp only [List.mem_cons, List.not_mem_nil, or_false, gz]); omega) | rfl)) only [↓gsd, gs, ev, Nat.reduceAdd, Nat.reduceEqDiff, oneC, Value.cells, Option.isNone, gt, frT_self, frT_drew, frT_drew0, frT_alloc, ↓hk95]
  generalize hW : World.alloc (World.alloc w _) _ = w1
  have hf1 : Fr [] w w1 := by rw [← hW]; (repeat (first | exact Fr.refl _ _ | assumption | with_reducible apply Fr.alloc | with_reducible apply Fr.drew | with_reducible refine Fr.setB ?_ _ _ (.inr (by first | omega | (simp only [gz]; omega))) | with_reducible refine Fr.setB ?_ _ _ (.inl (by first | assumption | simp)) | with_reducible refine Fr.trans' ?_ (by assumption)))
  have hz1 : w1.heap.size = w.heap.size + 2 := by rw [← hW]; simp only [gz]
  have hfb : w1.heap[w.heap.size + 1]? = some (.cells (encFact (fOf key none none)).toArray 31 (0, 0)) := by rw [← hW]; simp (maxSteps := 4000000) (disch := (first | assumption | exact List.not_mem_nil | exact Fr.refl _ _ | ((repeat (first | assumption | apply cur_alloc | apply cur_setB | apply cur_drew | apply cur_drewN)); done) | omega | (simp only [gz, Value.cells, oneC]; first | done | omega) | ((simp only [List.mem_cons, List.not_mem_nil, or_false, gz]); omega) | rfl)) only [↓gsd, gs, ev, Nat.reduceAdd, Nat.reduceEqDiff, oneC, Value.cells, Option.isNone]; rfl
  have hrb : w1.heap[w.heap.size]? = some (.cells (encFact fact0).toArray 31 (0, 0)) := by rw [← hW]; simp (maxSteps := 4000000) (disch := (first | assumption | exact List.not_mem_nil | exact Fr.refl _ _ | ((repeat (first | assumption | apply cur_alloc | apply cur_setB | apply cur_drew | apply cur_drewN)); done) | omega | (simp only [gz, Value.cells, oneC]; first | done | omega) | ((simp only [List.mem_cons, List.not_mem_nil, or_false, gz]); omega) | rfl)) only [↓gsd, gs, ev, Nat.reduceAdd, Nat.reduceEqDiff, oneC, Value.cells, Option.isNone]; rfl
  clear hW
  have cw1 := cur w1
  refine r5all (h.frN hf1) hl fun vo w2 hown hfr hf2 => ?_
  have cw2 := cur w2
  have hz2 := hf2.size
  obtain ⟨l, hl'⟩ : ∃ l, l = allP (past own) key := ⟨_, rfl⟩
  rw [← hl'] at hown hK
  have hll : l.length ≤ 100000000 := by
    rw [hl']; unfold allP
    rw [List.length_map]
    have := List.length_filter_le (fun p : Past => decide (p.2.key = key)) (past own)
    omega
  obtain ⟨oa, oc, hvo⟩ := hown.sl.form
  have hF2 := hf1.trans' hf2
  have hfb2 := hf2.getN hfb
  have hrb2 := hf2.getN hrb
  have hne : vo.ownBlock ≠ some (w.heap.size + 1) := own_head hown hfb2 (by decide)
  simp (maxSteps := 4000000) (disch := (first | assumption | exact List.not_mem_nil | exact Fr.refl _ _ | ((repeat (first | assumption | apply cur_alloc | apply cur_setB | apply cur_drew | apply cur_drewN)); done) | omega | (simp only [gz, Value.cells, oneC]; first | done | omega) | ((simp only [List.mem_cons, List.not_mem_nil, or_false, gz]); omega) | rfl)) only [↓gsd, gs, ev, Nat.reduceAdd, Nat.reduceEqDiff, oneC, Value.cells, Option.isNone, gt, frT_self, frT_drew, frT_drew0, frT_alloc, ↓hk95]
  refine loop_intro (fun e w' => ∃ (i : Nat), i ≤ l.length ∧ e 2 = .int .i64 c ∧ e 6 = .pointer (some ⟨w.heap.size, 0, none⟩) ∧ e 7 = .pointer (some ⟨w.heap.size + 1, 0, none⟩) ∧ e 8 = vo ∧ e 9 = .int .i64 i ∧
      w'.heap[w.heap.size + 1]? = some (.cells (encFact (fOf key (loF (l.take i) c) none)).toArray 31 (0, 0)) ∧ Fr [w.heap.size + 1] w2 w') (fun e _ => l.length - (numOf (e 9)).toNat) ?_ ?_
  · refine ⟨0, Nat.zero_le _, ?_⟩
    simp (maxSteps := 4000000) (disch := (first | assumption | exact List.not_mem_nil | exact Fr.refl _ _ | ((repeat (first | assumption | apply cur_alloc | apply cur_setB | apply cur_drew | apply cur_drewN)); done) | omega | (simp only [gz, Value.cells, oneC]; first | done | omega) | ((simp only [List.mem_cons, List.not_mem_nil, or_false, gz]); omega) | rfl)) only [↓gsd, gs, ev, Nat.reduceAdd, Nat.reduceEqDiff, oneC, Value.cells, Option.isNone, Int.natCast_zero]
    exact ⟨hfb2, Fr.refl _ _⟩
  rintro e w3 k ⟨i, hi, e2, e6, e7, e8, e9, hg, hf⟩ hk
  have cw3 := cur w3
  have hz3 := hf.size
  have hlt := lt_of_get _ _ hg
  have hsl3 : SlOf 3 encVer w3 vo l := (hown.fr hf (by simpa using hne)).sl
  by_cases hil : i < l.length
  · have d : decide ((i : Int) < (l.length : Int)) = true := decide_eq_true (by omega)
    have i0 : (0 : Int) ≤ (i : Int) := by omega
    have i1 : (i : Int) < (l.length : Int) := by omega
    have i3 : ((i : Int) + 1).toNat = i + 1 := by omega
    obtain ⟨x, hx⟩ : ∃ x, l[i]? = some x := ⟨l[i], List.getElem?_eq_getElem hil⟩
    obtain ⟨b, off, cap, o, hv1, ho, hbl, hc0, hc1⟩ := ver_read hsl3 hx
    have htk : loF (l.take (i + 1)) c = if x.n ≤ c then some x else loF (l.take i) c := by rw [List.take_add_one, hx]; exact loF_snoc _ _ _
    have hbne : b ≠ w.heap.size + 1 := fun e => hne (by
      rw [hv1] at hvo
      rw [hv1]
      rcases hown.2 with ⟨rfl, _⟩ | ⟨g, cap', cur', hgv, _⟩
      · cases hv1
      · rw [hv1] at hgv; simp only [Value.slice.injEq, Option.some.injEq, Addr.mk.injEq] at hgv
        rw [hgv.1.2.1]; simp [Value.ownBlock, e])
    by_cases hq : x.n ≤ c
    · have dq : decide (x.n ≤ c) = true := decide_eq_true hq
      unfold encFact fOf at hg
      simp (maxSteps := 4000000) (disch := (first | assumption | exact List.not_mem_nil | exact Fr.refl _ _ | ((repeat (first | assumption | apply cur_alloc | apply cur_setB | apply cur_drew | apply cur_drewN)); done) | omega | (simp only [gz, Value.cells, oneC]; first | done | omega) | ((simp only [List.mem_cons, List.not_mem_nil, or_false, gz]); omega) | rfl)) only [↓gsd, gs, ev, Nat.reduceAdd, Nat.reduceEqDiff, oneC, Value.cells, Option.isNone, gt, frT_self, frT_drew, frT_drew0, frT_alloc, ↓hk95, e2, e6, e7, e8, e9, hv1, d, i0, i1, Int.toNat_natCast, ho, hc0, hc1, dq, hg]
      refine hk _ _ ⟨i + 1, by omega, ?_⟩ ?_
      · rw [htk, if_pos hq]
        simp (maxSteps := 4000000) (disch := (first | assumption | exact List.not_mem_nil | exact Fr.refl _ _ | ((repeat (first | assumption | apply cur_alloc | apply cur_setB | apply cur_drew | apply cur_drewN)); done) | omega | (simp only [gz, Value.cells, oneC]; first | done | omega) | ((simp only [List.mem_cons, List.not_mem_nil, or_false, gz]); omega) | rfl)) only [↓gsd, gs, ev, Nat.reduceAdd, Nat.reduceEqDiff, oneC, Value.cells, Option.isNone, e2, e6, e7, e8, e9, hv1, Int.natCast_add i 1, Int.natCast_one]
        exact ⟨rfl, (hf.setB _ _ (.inl (by simp)))⟩
      · simp (maxSteps := 4000000) (disch := (first | assumption | exact List.not_mem_nil | exact Fr.refl _ _ | ((repeat (first | assumption | apply cur_alloc | apply cur_setB | apply cur_drew | apply cur_drewN)); done) | omega | (simp only [gz, Value.cells, oneC]; first | done | omega) | ((simp only [List.mem_cons, List.not_mem_nil, or_false, gz]); omega) | rfl)) only [↓gsd, gs, ev, Nat.reduceAdd, Nat.reduceEqDiff, oneC, Value.cells, Option.isNone, e9, numOf, Int.toNat_natCast, i3]; omega
    · have dq : decide (x.n ≤ c) = false := decide_eq_false hq
      simp (maxSteps := 4000000) (disch := (first | assumption | exact List.not_mem_nil | exact Fr.refl _ _ | ((repeat (first | assumption | apply cur_alloc | apply cur_setB | apply cur_drew | apply cur_drewN)); done) | omega | (simp only [gz, Value.cells, oneC]; first | done | omega) | ((simp only [List.mem_cons, List.not_mem_nil, or_false, gz]); omega) | rfl)) only [↓gsd, gs, ev, Nat.reduceAdd, Nat.reduceEqDiff, oneC, Value.cells, Option.isNone, gt, frT_self, frT_drew, frT_drew0, frT_alloc, ↓hk95, e2, e6, e7, e8, e9, hv1, d, i0, i1, Int.toNat_natCast, ho, hc0, hc1, dq]
      refine hk _ _ ⟨i + 1, by omega, ?_⟩ ?_
      · rw [htk, if_neg hq]
        simp (maxSteps := 4000000) (disch := (first | assumption | exact List.not_mem_nil | exact Fr.refl _ _ | ((repeat (first | assumption | apply cur_alloc | apply cur_setB | apply cur_drew | apply cur_drewN)); done) | omega | (simp only [gz, Value.cells, oneC]; first | done | omega) | ((simp only [List.mem_cons, List.not_mem_nil, or_false, gz]); omega) | rfl)) only [↓gsd, gs, ev, Nat.reduceAdd, Nat.reduceEqDiff, oneC, Value.cells, Option.isNone, e2, e6, e7, e8, e9, hv1, Int.natCast_add i 1, Int.natCast_one]
        exact ⟨hg, hf⟩
      · simp (maxSteps := 4000000) (disch := (first | assumption | exact List.not_mem_nil | exact Fr.refl _ _ | ((repeat (first | assumption | apply cur_alloc | apply cur_setB | apply cur_drew | apply cur_drewN)); done) | omega | (simp only [gz, Value.cells, oneC]; first | done | omega) | ((simp only [List.mem_cons, List.not_mem_nil, or_false, gz]); omega) | rfl)) only [↓gsd, gs, ev, Nat.reduceAdd, Nat.reduceEqDiff, oneC, Value.cells, Option.isNone, e9, numOf, Int.toNat_natCast, i3]; omega
  have d : decide ((i : Int) < (l.length : Int)) = false := decide_eq_false (by omega)
  have hie : i = l.length := by omega
  subst hie
  rw [List.take_length] at hg
  have wr : IntKind.i64.wrap ((l.length : Int) - 1) = (l.length : Int) - 1 := wrap64 (by omega) (by omega)
  simp (maxSteps := 4000000) (disch := (first | assumption | exact List.not_mem_nil | exact Fr.refl _ _ | ((repeat (first | assumption | apply cur_alloc | apply cur_setB | apply cur_drew | apply cur_drewN)); done) | omega | (simp only [gz, Value.cells, oneC]; first | done | omega) | ((simp only [List.mem_cons, List.not_mem_nil, or_false, gz]); omega) | rfl)) only [↓gsd, gs, ev, Nat.reduceAdd, Nat.reduceEqDiff, oneC, Value.cells, Option.isNone, gt, frT_self, frT_drew, frT_drew0, frT_alloc, ↓hk95, e2, e6, e7, e8, e9, hvo, d, wr]
  refine loop_intro (fun e w' => ∃ (j : Nat), j ≤ l.length ∧ e 2 = .int .i64 c ∧ e 6 = .pointer (some ⟨w.heap.size, 0, none⟩) ∧ e 7 = .pointer (some ⟨w.heap.size + 1, 0, none⟩) ∧ e 8 = vo ∧ e 10 = .int .i64 ((j : Int) - 1) ∧
      w'.heap[w.heap.size + 1]? = some (.cells (encFact (fOf key (loF l c) (hiF (l.drop j) c))).toArray 31 (0, 0)) ∧ Fr [w.heap.size + 1] w2 w') (fun e _ => (numOf (e 10) + 1).toNat) ?_ ?_
  · refine ⟨l.length, Nat.le_refl _, ?_⟩
    simp (maxSteps := 4000000) (disch := (first | assumption | exact List.not_mem_nil | exact Fr.refl _ _ | ((repeat (first | assumption | apply cur_alloc | apply cur_setB | apply cur_drew | apply cur_drewN)); done) | omega | (simp only [gz, Value.cells, oneC]; first | done | omega) | ((simp only [List.mem_cons, List.not_mem_nil, or_false, gz]); omega) | rfl)) only [↓gsd, gs, ev, Nat.reduceAdd, Nat.reduceEqDiff, oneC, Value.cells, Option.isNone, e2, e6, e7, e8, hvo, List.drop_length]
    exact ⟨hg, hf⟩
  rintro e w4 k ⟨j, hj, e2, e6, e7, e8, e10, hg, hf⟩ hk
  have cw4 := cur w4
  have hlt := lt_of_get _ _ hg
  have hz4 := hf.size
  by_cases hj0 : 1 ≤ j
  · have d : decide ((0 : Int) ≤ (j : Int) - 1) = true := decide_eq_true (by omega)
    have i0 : (0 : Int) ≤ (j : Int) - 1 := by omega
    have i1 : (j : Int) - 1 < (l.length : Int) := by omega
    have i3 : ((j : Int) - 1).toNat = j - 1 := by omega
    have wr : IntKind.i64.wrap ((j : Int) - 1 - 1) = ((j - 1 : Nat) : Int) - 1 := by rw [wrap64 (by omega) (by omega)]; omega
    obtain ⟨x, hx⟩ : ∃ x, l[j - 1]? = some x := ⟨l[j - 1]'(by omega), List.getElem?_eq_getElem (by omega)⟩
    have hsl4 : SlOf 3 encVer w4 vo l := (hown.fr hf (by simpa using hne)).sl
    obtain ⟨b, off, cap, o, hv1, ho, hbl, hc0, hc1⟩ := ver_read hsl4 hx
    have hdr := hiF_drop l c hx
    rw [show j - 1 + 1 = j by omega] at hdr
    by_cases hq : c < x.n
    · have dq : decide (c < x.n) = true := decide_eq_true hq
      unfold encFact fOf at hg
      simp (maxSteps := 4000000) (disch := (first | assumption | exact List.not_mem_nil | exact Fr.refl _ _ | ((repeat (first | assumption | apply cur_alloc | apply cur_setB | apply cur_drew | apply cur_drewN)); done) | omega | (simp only [gz, Value.cells, oneC]; first | done | omega) | ((simp only [List.mem_cons, List.not_mem_nil, or_false, gz]); omega) | rfl)) only [↓gsd, gs, ev, Nat.reduceAdd, Nat.reduceEqDiff, oneC, Value.cells, Option.isNone, gt, frT_self, frT_drew, frT_drew0, frT_alloc, ↓hk95, e2, e6, e7, e8, e10, hv1, d, i0, i1, i3, wr, ho, hc0, dq, hg]
      refine hk _ _ ⟨j - 1, by omega, ?_⟩ ?_
      · rw [hdr, if_pos hq]
        simp (maxSteps := 4000000) (disch := (first | assumption | exact List.not_mem_nil | exact Fr.refl _ _ | ((repeat (first | assumption | apply cur_alloc | apply cur_setB | apply cur_drew | apply cur_drewN)); done) | omega | (simp only [gz, Value.cells, oneC]; first | done | omega) | ((simp only [List.mem_cons, List.not_mem_nil, or_false, gz]); omega) | rfl)) only [↓gsd, gs, ev, Nat.reduceAdd, Nat.reduceEqDiff, oneC, Value.cells, Option.isNone, e2, e6, e7, e8, e10, hv1]
        exact ⟨rfl, (hf.setB _ _ (.inl (by simp)))⟩
      · simp (maxSteps := 4000000) (disch := (first | assumption | exact List.not_mem_nil | exact Fr.refl _ _ | ((repeat (first | assumption | apply cur_alloc | apply cur_setB | apply cur_drew | apply cur_drewN)); done) | omega | (simp only [gz, Value.cells, oneC]; first | done | omega) | ((simp only [List.mem_cons, List.not_mem_nil, or_false, gz]); omega) | rfl)) only [↓gsd, gs, ev, Nat.reduceAdd, Nat.reduceEqDiff, oneC, Value.cells, Option.isNone, e10, numOf]; omega
    · have dq : decide (c < x.n) = false := decide_eq_false hq
      simp (maxSteps := 4000000) (disch := (first | assumption | exact List.not_mem_nil | exact Fr.refl _ _ | ((repeat (first | assumption | apply cur_alloc | apply cur_setB | apply cur_drew | apply cur_drewN)); done) | omega | (simp only [gz, Value.cells, oneC]; first | done | omega) | ((simp only [List.mem_cons, List.not_mem_nil, or_false, gz]); omega) | rfl)) only [↓gsd, gs, ev, Nat.reduceAdd, Nat.reduceEqDiff, oneC, Value.cells, Option.isNone, gt, frT_self, frT_drew, frT_drew0, frT_alloc, ↓hk95, e2, e6, e7, e8, e10, hv1, d, i0, i1, i3, wr, ho, hc0, dq]
      refine hk _ _ ⟨j - 1, by omega, ?_⟩ ?_
      · rw [hdr, if_neg hq]
        simp (maxSteps := 4000000) (disch := (first | assumption | exact List.not_mem_nil | exact Fr.refl _ _ | ((repeat (first | assumption | apply cur_alloc | apply cur_setB | apply cur_drew | apply cur_drewN)); done) | omega | (simp only [gz, Value.cells, oneC]; first | done | omega) | ((simp only [List.mem_cons, List.not_mem_nil, or_false, gz]); omega) | rfl)) only [↓gsd, gs, ev, Nat.reduceAdd, Nat.reduceEqDiff, oneC, Value.cells, Option.isNone, e2, e6, e7, e8, e10, hv1]
        exact ⟨hg, hf⟩
      · simp (maxSteps := 4000000) (disch := (first | assumption | exact List.not_mem_nil | exact Fr.refl _ _ | ((repeat (first | assumption | apply cur_alloc | apply cur_setB | apply cur_drew | apply cur_drewN)); done) | omega | (simp only [gz, Value.cells, oneC]; first | done | omega) | ((simp only [List.mem_cons, List.not_mem_nil, or_false, gz]); omega) | rfl)) only [↓gsd, gs, ev, Nat.reduceAdd, Nat.reduceEqDiff, oneC, Value.cells, Option.isNone, e10, numOf]; omega
  · have d : decide ((0 : Int) ≤ (j : Int) - 1) = false := decide_eq_false (by omega)
    have : j = 0 := by omega
    subst this
    rw [List.drop_zero] at hg
    have hrb4 := hf.get hrb2 (by simp)
    have hltr := lt_of_get _ _ hrb4
    unfold encFact fOf at hg hK
    unfold encFact fact0 at hrb4
    simp (maxSteps := 4000000) (disch := (first | assumption | exact List.not_mem_nil | exact Fr.refl _ _ | ((repeat (first | assumption | apply cur_alloc | apply cur_setB | apply cur_drew | apply cur_drewN)); done) | omega | (simp only [gz, Value.cells, oneC]; first | done | omega) | ((simp only [List.mem_cons, List.not_mem_nil, or_false, gz]); omega) | rfl)) only [↓gsd, gs, ev, Nat.reduceAdd, Nat.reduceEqDiff, oneC, Value.cells, Option.isNone, gt, frT_self, frT_drew, frT_drew0, frT_alloc, ↓hk95, e2, e6, e7, e8, e10, d, hg, hrb4]
    refine hK _ ((hF2.trans hf fun x hx => by simp at hx; subst hx; right; omega).setB _ _ (.inr (by omega)))
end Go.Proofs.Ytenokheiindfkaa
