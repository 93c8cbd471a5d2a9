/- The reference in memory: New, All, Kept, Oldest; SameTexts, SameVersions. -/
import Derived.Test.YtenokheiindfkaaT1
import Derived.Test.YtenokheiindfkaaS11
set_option linter.unusedVariables false
set_option linter.unusedSimpArgs false
set_option maxRecDepth 10000
namespace Go.Proofs.Ytenokheiindfkaa
open Go.VW
theorem mem_blkL {v : Value} {b : Nat} : b ∈ blkL v ↔ v.ownBlock = some b := by
  unfold blkL
  split
  · rename_i g hg; rw [hg]; simp; exact eq_comm
  · rename_i hg; rw [hg]; simp
theorem own_ne {k k' n n' : Nat} {e e' : TypeId} {w : World} {v v' : Value} {cs cs' : List Value} (h : Own k e w v n cs) (h' : Own k' e' w v' n' cs') (he : e ≠ e') : ∀ b, v.ownBlock = some b → v'.ownBlock ≠ some b := by
  intro b hb hb'
  rcases h.2 with ⟨rfl, _⟩ | ⟨g, cap, cur, rfl, _, hg, _⟩
  · simp [Value.ownBlock] at hb
  · rcases h'.2 with ⟨rfl, _⟩ | ⟨g', cap', cur', rfl, _, hg', _⟩
    · simp [Value.ownBlock] at hb'
    · simp [Value.ownBlock] at hb hb'
      subst hb; subst hb'
      rw [hg] at hg'
      cases hg'
      exact he rfl
theorem own_head {k n : Nat} {e t : TypeId} {w : World} {v : Value} {cs : List Value} {b : Nat} {c : Array Value} {fr : Nat × Nat} (h : Own k e w v n cs) (hb : w.heap[b]? = some (.cells c t fr)) (he : e ≠ t) : v.ownBlock ≠ some b := by
  intro hb'
  rcases h.2 with ⟨rfl, _⟩ | ⟨g, cap, cur, rfl, _, hg, _⟩
  · simp [Value.ownBlock] at hb'
  · simp [Value.ownBlock] at hb'
    subst hb'
    rw [hg] at hb
    cases hb
    exact he rfl
theorem Own.frN {k n : Nat} {e : TypeId} {w w' : World} {v : Value} {cs : List Value} (h : Own k e w v n cs) (hf : Fr [] w w') : Own k e w' v n cs := h.fr (M := []) hf (by simp)
theorem fresh_app {w w1 w2 : World} {v : Value} (h1 : ∀ b, v.ownBlock = some b → w.heap.size ≤ b) (hf : Fr (blkL v) w1 w2) (h : Fr [] w w1) : Fr [] w w2 := h.trans hf fun x hx => .inr (h1 x (mem_blkL.1 hx))
abbrev Past := Int × Wr
def encPast (p : Past) : List Value := [.int .i64 p.1, .string p.2.key, .bool p.2.has, .string p.2.data]
theorem encPast_len (p : Past) : (encPast p).length = 4 := rfl
def past (own : List (List Wr)) : List Past := own.zipIdx.flatMap fun q => q.1.map fun x => ((q.2 : Int) + 1, x)
theorem past_snoc (own : List (List Wr)) (ws : List Wr) : past (own ++ [ws]) = past own ++ ws.map fun x => ((own.length : Int) + 1, x) := by
  unfold past
  rw [List.zipIdx_append, List.flatMap_append]
  simp
def allP (ps : List Past) (key : ByteArray) : List Ver := (ps.filter fun p => decide (p.2.key = key)).map fun p => verOf p.1 p.2
theorem allP_app (ps qs : List Past) (key : ByteArray) : allP (ps ++ qs) key = allP ps key ++ allP qs key := by
  unfold allP; rw [List.filter_append, List.map_append]
theorem allP_ws {ws : List Wr} (n : Int) (key : ByteArray) (hn : (ws.map (·.key)).Nodup) : allP (ws.map fun x => (n, x)) key = match fnd ws key with | some x => [verOf n x] | none => [] := by
  induction ws with
  | nil => rfl
  | cons x ws ih =>
    simp only [List.map_cons, List.nodup_cons] at hn
    unfold fnd
    rw [List.find?_cons]
    by_cases hk : x.key = key
    · have : ∀ l : List Wr, (∀ y ∈ l, y.key ≠ key) → allP (l.map fun x => (n, x)) key = [] := by
        intro l hl
        unfold allP
        rw [List.map_eq_nil_iff, List.filter_eq_nil_iff]
        intro p hp
        obtain ⟨y, hy, rfl⟩ := List.mem_map.1 hp
        simpa using hl y hy
      have h2 := this ws fun y hy e => hn.1 (List.mem_map.2 ⟨y, hy, by rw [e, hk]⟩)
      have h1 : allP ((x :: ws).map fun x => (n, x)) key = verOf n x :: allP (ws.map fun x => (n, x)) key := by simp [allP, hk]
      rw [h1, h2]
      simp [hk]
    · have h1 : allP ((x :: ws).map fun x => (n, x)) key = allP (ws.map fun x => (n, x)) key := by simp [allP, hk]
      rw [h1, ih hn.2]
      simp [hk, fnd]
theorem list_snoc {α : Type} {P : List α → Prop} (h0 : P []) (h1 : ∀ l a, P l → P (l ++ [a])) : ∀ l, P l := by
  intro l
  have : ∀ r : List α, P r.reverse := fun r => by
    induction r with
    | nil => exact h0
    | cons a r ih => rw [List.reverse_cons]; exact h1 _ _ ih
  have := this l.reverse
  rwa [List.reverse_reverse] at this
theorem all_hv (key : ByteArray) : ∀ own : List (List Wr), (∀ ws ∈ own, chk ws = 0) → allP (past own) key = hv own key := by
  apply list_snoc
  · intro _; rfl
  · intro own ws ih hc
    rw [past_snoc, allP_app, ih fun w hw => hc w (List.mem_append_left _ hw), allP_ws _ _ (chk_nodup (hc ws (by simp))), hv_snoc]
    cases fnd ws key <;> simp
/-- The reference's store. -/
structure R5At (w : World) (rb : Nat) (v : Value) (most : Nat) (own : List (List Wr)) : Prop where
  head : w.heap[rb]? = some (.cells ([v, .int .i64 most, .int .i64 own.length] : List Value).toArray 104 (0, 0))
  own : Own 4 155 w v (past own).length (cellsOf encPast (past own))
theorem R5At.fr {w w' : World} {rb most : Nat} {v : Value} {own : List (List Wr)} (h : R5At w rb v most own) {M : List Nat} (hf : Fr M w w') (hrb : rb ∉ M) (hv : ∀ b, v.ownBlock = some b → b ∉ M) : R5At w' rb v most own :=
  ⟨hf.get h.head hrb, h.own.fr hf fun b hb e => hv b e hb⟩
theorem R5At.frN {w w' : World} {rb most : Nat} {v : Value} {own : List (List Wr)} (h : R5At w rb v most own) (hf : Fr [] w w') : R5At w' rb v most own := h.fr hf (by simp) (by simp)
theorem R5At.lt {w : World} {rb most : Nat} {v : Value} {own : List (List Wr)} (h : R5At w rb v most own) : rb < w.heap.size ∧ ∀ b, v.ownBlock = some b → b < w.heap.size := ⟨lt_of_get _ _ h.head, fun b hb => h.own.lt hb⟩
theorem r5new {n : Int} {w : World} {K : Value → World → Prop} (hK : ∀ rb w', Fr [] w w' → w.heap.size ≤ rb → R5At w' rb (.slice none 0 0) (min (max n 1) 64).toNat [] → K (.pointer (some ⟨rb, 0, none⟩)) w') : CallsN Try.prog 46 [.int .i64 n] w K := by
  have cw := cur w
  refine call46 ?_
  have key : ∀ m : Int, m = ((min (max n 1) 64).toNat : Int) → R5At (w.alloc (.cells ([.slice none 0 0, .int .i64 m, .int .i64 0] : List Value).toArray 104)) w.heap.size (.slice none 0 0) (min (max n 1) 64).toNat [] := fun m hm => by
    refine ⟨?_, Own.nil⟩
    rw [hm]; exact get_alloc_new _ _
  by_cases h1 : n < 1
  · have d1 : decide (n < 1) = true := decide_eq_true h1
    have d2 : decide ((64 : Int) < 1) = false := rfl
    simp (maxSteps := 4000000) (disch := (first | assumption | exact List.not_mem_nil | exact Fr.refl _ _ | ((repeat (first | assumption | apply cur_alloc | apply cur_setB | apply cur_drew | apply cur_drewN)); done) | omega | (simp only [gz, Value.cells, oneC]; first | done | omega) | ((simp only [List.mem_cons, List.not_mem_nil, or_false, gz]); omega) | rfl)) only [↓gsd, gs, ev, Nat.reduceAdd, Nat.reduceEqDiff, oneC, Value.cells, Option.isNone, gt, ↓hk46, d1, d2]
    exact hK _ _ (by (repeat (first | exact Fr.refl _ _ | assumption | with_reducible apply Fr.alloc | with_reducible apply Fr.drew | with_reducible refine Fr.setB ?_ _ _ (.inr (by first | omega | (simp only [gz]; omega))) | with_reducible refine Fr.setB ?_ _ _ (.inl (by first | assumption | simp)) | with_reducible refine Fr.trans' ?_ (by assumption)))) (Nat.le_refl _) (key 1 (by omega))
  · have d1 : decide (n < 1) = false := decide_eq_false h1
    by_cases h2 : 64 < n
    · have d2 : decide ((64 : Int) < n) = true := decide_eq_true h2
      simp (maxSteps := 4000000) (disch := (first | assumption | exact List.not_mem_nil | exact Fr.refl _ _ | ((repeat (first | assumption | apply cur_alloc | apply cur_setB | apply cur_drew | apply cur_drewN)); done) | omega | (simp only [gz, Value.cells, oneC]; first | done | omega) | ((simp only [List.mem_cons, List.not_mem_nil, or_false, gz]); omega) | rfl)) only [↓gsd, gs, ev, Nat.reduceAdd, Nat.reduceEqDiff, oneC, Value.cells, Option.isNone, gt, ↓hk46, d1, d2]
      exact hK _ _ (by (repeat (first | exact Fr.refl _ _ | assumption | with_reducible apply Fr.alloc | with_reducible apply Fr.drew | with_reducible refine Fr.setB ?_ _ _ (.inr (by first | omega | (simp only [gz]; omega))) | with_reducible refine Fr.setB ?_ _ _ (.inl (by first | assumption | simp)) | with_reducible refine Fr.trans' ?_ (by assumption)))) (Nat.le_refl _) (key 64 (by omega))
    · have d2 : decide ((64 : Int) < n) = false := decide_eq_false h2
      simp (maxSteps := 4000000) (disch := (first | assumption | exact List.not_mem_nil | exact Fr.refl _ _ | ((repeat (first | assumption | apply cur_alloc | apply cur_setB | apply cur_drew | apply cur_drewN)); done) | omega | (simp only [gz, Value.cells, oneC]; first | done | omega) | ((simp only [List.mem_cons, List.not_mem_nil, or_false, gz]); omega) | rfl)) only [↓gsd, gs, ev, Nat.reduceAdd, Nat.reduceEqDiff, oneC, Value.cells, Option.isNone, gt, ↓hk46, d1, d2]
      exact hK _ _ (by (repeat (first | exact Fr.refl _ _ | assumption | with_reducible apply Fr.alloc | with_reducible apply Fr.drew | with_reducible refine Fr.setB ?_ _ _ (.inr (by first | omega | (simp only [gz]; omega))) | with_reducible refine Fr.setB ?_ _ _ (.inl (by first | assumption | simp)) | with_reducible refine Fr.trans' ?_ (by assumption)))) (Nat.le_refl _) (key n (by omega))
theorem past_read {w : World} {v : Value} {ps : List Past} {i : Nat} {p : Past} (h : SlOf 4 encPast w v ps) (hp : ps[i]? = some p) : ∃ b off cap o, v = .slice (some ⟨b, off, none⟩) ps.length cap ∧ w.heap[b]? = some o ∧ b < w.heap.size ∧ (∀ orig K, ldV orig (some o) (off + i * 4) K = K (.int .i64 p.1)) ∧
    (∀ orig K, ldV orig (some o) (off + i * 4 + 1) K = K (.string p.2.key)) ∧ ∀ orig K, ldnV orig 2 (some o) (off + i * 4 + 1 + 1) K = K (.agg ([.bool p.2.has, .string p.2.data] : List Value).toArray) := by
  obtain ⟨b, off, cap, o, hv, ho, hl, hr, hc⟩ := h.read encPast_len i p hp
  refine ⟨b, off, cap, o, hv, ho, hl, fun orig K => by have := hc 0 (.int .i64 p.1) orig K rfl; simpa using this, fun orig K => hc 1 (.string p.2.key) orig K rfl, fun orig K => ?_⟩
  obtain ⟨b', off', cap', c, et, fr, hv', hb, hg, hd⟩ := h.elem encPast_len i p hp
  rw [hv] at hv'
  simp only [Value.slice.injEq, Option.some.injEq, Addr.mk.injEq] at hv'
  obtain ⟨⟨rfl, rfl, _⟩, _, _⟩ := hv'
  rw [hb] at ho
  cases ho
  have e : (c.toList.drop (off + i * 4 + 1 + 1)).take 2 = [.bool p.2.has, .string p.2.data] := by
    have : (c.toList.drop (off + i * 4 + 1 + 1)).take 2 = ((c.toList.drop (off + i * 4)).take 4).drop 2 := by
      rw [List.drop_take, List.drop_drop]
    rw [this, hd]; rfl
  rw [ldnV_cells _ _ _ _ _ _ _ (by rw [e]; rfl), e]
theorem sl_ver {w : World} (x : Ver) : Sl 3 (w.alloc (.cells (encVer x).toArray 106 (0, 0))) (.slice (some ⟨w.heap.size, 0, none⟩) 1 1) 1 (encVer x) :=
  ⟨rfl, .inr ⟨w.heap.size, 0, 1, _, 106, (0, 0), rfl, get_alloc_new _ _, rfl⟩⟩
set_option maxHeartbeats 8000000 in
theorem r5all {w : World} {rb most : Nat} {v : Value} {own : List (List Wr)} {key : ByteArray} {K : Value → World → Prop} (h : R5At w rb v most own) (hl : (past own).length ≤ 100000000)
    (hK : ∀ vo w', Own 3 106 w' vo (allP (past own) key).length (cellsOf encVer (allP (past own) key)) → (∀ b, vo.ownBlock = some b → w.heap.size ≤ b) → Fr [] w w' → K vo w') : CallsN Try.prog 96 [.pointer (some ⟨rb, 0, none⟩), .string key] w K := by
  have cw := cur w
  obtain ⟨a, c, hv⟩ := h.own.sl.form
  have hh := h.head
  have hlt := lt_of_get _ _ hh
  rw [hv] at hh
  obtain ⟨ps, hps⟩ : ∃ ps, ps = past own := ⟨_, rfl⟩
  have how := h.own
  rw [← hps] at hh how hl hK hv
  have hall : ∀ i, (allP (ps.take i) key).length ≤ i := fun i => by
    unfold allP
    rw [List.length_map]
    have h1 := List.length_filter_le (fun p : Past => decide (p.2.key = key)) (ps.take i)
    have h2 := List.length_take_le i ps
    omega
  refine call96 ?_
  simp (maxSteps := 4000000) (disch := (first | assumption | exact List.not_mem_nil | exact Fr.refl _ _ | ((repeat (first | assumption | apply cur_alloc | apply cur_setB | apply cur_drew | apply cur_drewN)); done) | omega | (simp only [gz, Value.cells, oneC]; first | done | omega) | ((simp only [List.mem_cons, List.not_mem_nil, or_false, gz]); omega) | rfl)) only [↓gsd, gs, ev, Nat.reduceAdd, Nat.reduceEqDiff, oneC, Value.cells, Option.isNone, gt, frT_self, frT_drew, frT_drew0, frT_alloc, ↓hk96]
  refine loop_intro (fun e w' => ∃ (i : Nat) (vo : Value), i ≤ ps.length ∧ e 0 = .pointer (some ⟨rb, 0, none⟩) ∧ e 1 = .string key ∧ e 5 = vo ∧ e 6 = .int .i64 i ∧ Own 3 106 w' vo (allP (ps.take i) key).length (cellsOf encVer (allP (ps.take i) key)) ∧ (∀ b, vo.ownBlock = some b → w.heap.size ≤ b) ∧ Fr [] w w') (fun e _ => ps.length - (numOf (e 6)).toNat) ?_ ?_
  · refine ⟨0, .slice none 0 0, Nat.zero_le _, ?_⟩
    simp (maxSteps := 4000000) (disch := (first | assumption | exact List.not_mem_nil | exact Fr.refl _ _ | ((repeat (first | assumption | apply cur_alloc | apply cur_setB | apply cur_drew | apply cur_drewN)); done) | omega | (simp only [gz, Value.cells, oneC]; first | done | omega) | ((simp only [List.mem_cons, List.not_mem_nil, or_false, gz]); omega) | rfl)) only [↓gsd, gs, ev, Nat.reduceAdd, Nat.reduceEqDiff, oneC, Value.cells, Option.isNone, Int.natCast_zero]
    exact ⟨Own.nil, fun b hb => by simp [Value.ownBlock] at hb, Fr.refl _ _⟩
  rintro e w1 k ⟨i, vo, hi, e0, e1, e5, e6, hown, hfr, hf⟩ hk
  have cw1 := cur w1
  have hz1 := hf.size
  have hh1 := hf.getN hh
  obtain ⟨oa, oc, hvo⟩ := hown.sl.form
  by_cases hil : i < ps.length
  · have d : decide ((i : Int) < (ps.length : Int)) = true := decide_eq_true (by omega)
    have i0 : (0 : Int) ≤ (i : Int) := by omega
    have i1 : (i : Int) < (ps.length : Int) := by omega
    have i3 : ((i : Int) + 1).toNat = i + 1 := by omega
    obtain ⟨p, hp⟩ : ∃ p, ps[i]? = some p := ⟨ps[i], List.getElem?_eq_getElem hil⟩
    obtain ⟨b1, o1, p1, ob1, hv1, hb1, hbl1, hn, hkk, hvl⟩ := past_read (show SlOf 4 encPast w1 v ps from how.sl.frN hf) hp
    rw [hv] at hv1
    simp only [Value.slice.injEq] at hv1
    obtain ⟨rfl, _, rfl⟩ := hv1
    have htk : ps.take (i + 1) = ps.take i ++ [p] := by rw [List.take_add_one, hp]; rfl
    by_cases hq : p.2.key = key
    · have dq : decide (p.2.key = key) = true := decide_eq_true hq
      simp (maxSteps := 4000000) (disch := (first | assumption | exact List.not_mem_nil | exact Fr.refl _ _ | ((repeat (first | assumption | apply cur_alloc | apply cur_setB | apply cur_drew | apply cur_drewN)); done) | omega | (simp only [gz, Value.cells, oneC]; first | done | omega) | ((simp only [List.mem_cons, List.not_mem_nil, or_false, gz]); omega) | rfl)) only [↓gsd, gs, ev, Nat.reduceAdd, Nat.reduceEqDiff, oneC, Value.cells, Option.isNone, gt, frT_self, frT_drew, frT_drew0, frT_alloc, ↓hk96, e0, e1, e5, e6, hh1, d, i0, i1, Int.toNat_natCast, hb1, hn, hkk, hvl, dq]
      generalize hW : World.alloc w1.drew _ = w2
      have hf2 : Fr [] w1 w2 := by rw [← hW]; exact (Fr.refl _ _).drew.alloc _
      have hsl : Sl 3 w2 (.slice (some ⟨w1.heap.size, 0, none⟩) 1 1) 1 (encVer (verOf p.1 p.2)) := by rw [← hW]; exact sl_ver (w := w1.drew) (verOf p.1 p.2)
      clear hW
      have cw2 := cur w2
      have hz2 := hf2.size
      have := hall i
      obtain ⟨v4, w4, hr4, hown4, hf4, hbk⟩ := ap46 (ty := 46) (Own.frN hown hf2) hsl rfl (by omega)
      have cw4 := cur w4
      have hF4 := fresh_app hfr hf4 (hf.trans' hf2)
      simp (maxSteps := 4000000) (disch := (first | assumption | exact List.not_mem_nil | exact Fr.refl _ _ | ((repeat (first | assumption | apply cur_alloc | apply cur_setB | apply cur_drew | apply cur_drewN)); done) | omega | (simp only [gz, Value.cells, oneC]; first | done | omega) | ((simp only [List.mem_cons, List.not_mem_nil, or_false, gz]); omega) | rfl)) only [↓gsd, gs, ev, Nat.reduceAdd, Nat.reduceEqDiff, oneC, Value.cells, Option.isNone, gt, frT_self, frT_drew, frT_drew0, frT_alloc, eq_true hf2, ↓hk96, e0, e1, e5, e6, hr4]
      refine hk _ _ ⟨i + 1, v4, by omega, ?_⟩ ?_
      · simp (maxSteps := 4000000) (disch := (first | assumption | exact List.not_mem_nil | exact Fr.refl _ _ | ((repeat (first | assumption | apply cur_alloc | apply cur_setB | apply cur_drew | apply cur_drewN)); done) | omega | (simp only [gz, Value.cells, oneC]; first | done | omega) | ((simp only [List.mem_cons, List.not_mem_nil, or_false, gz]); omega) | rfl)) only [↓gsd, gs, ev, Nat.reduceAdd, Nat.reduceEqDiff, oneC, Value.cells, Option.isNone, e0, e1, e5, e6, Int.natCast_add i 1, Int.natCast_one]
        have e1' : allP (ps.take (i + 1)) key = allP (ps.take i) key ++ [verOf p.1 p.2] := by rw [htk, allP_app]; simp [allP, hq]
        rw [e1', cellsOf_append, cellsOf_one, List.length_append]
        refine ⟨hown4, fun b hb => ?_, hF4⟩
        rcases hbk with e | ⟨b', e, e2⟩
        · exact hfr b (e ▸ hb)
        · rw [e] at hb; cases hb; omega
      · simp (maxSteps := 4000000) (disch := (first | assumption | exact List.not_mem_nil | exact Fr.refl _ _ | ((repeat (first | assumption | apply cur_alloc | apply cur_setB | apply cur_drew | apply cur_drewN)); done) | omega | (simp only [gz, Value.cells, oneC]; first | done | omega) | ((simp only [List.mem_cons, List.not_mem_nil, or_false, gz]); omega) | rfl)) only [↓gsd, gs, ev, Nat.reduceAdd, Nat.reduceEqDiff, oneC, Value.cells, Option.isNone, e6, numOf, Int.toNat_natCast, i3]; omega
    · have dq : decide (p.2.key = key) = false := decide_eq_false hq
      simp (maxSteps := 4000000) (disch := (first | assumption | exact List.not_mem_nil | exact Fr.refl _ _ | ((repeat (first | assumption | apply cur_alloc | apply cur_setB | apply cur_drew | apply cur_drewN)); done) | omega | (simp only [gz, Value.cells, oneC]; first | done | omega) | ((simp only [List.mem_cons, List.not_mem_nil, or_false, gz]); omega) | rfl)) only [↓gsd, gs, ev, Nat.reduceAdd, Nat.reduceEqDiff, oneC, Value.cells, Option.isNone, gt, frT_self, frT_drew, frT_drew0, frT_alloc, ↓hk96, e0, e1, e5, e6, hh1, d, i0, i1, Int.toNat_natCast, hb1, hn, hkk, hvl, dq]
      refine hk _ _ ⟨i + 1, vo, by omega, ?_⟩ ?_
      · simp (maxSteps := 4000000) (disch := (first | assumption | exact List.not_mem_nil | exact Fr.refl _ _ | ((repeat (first | assumption | apply cur_alloc | apply cur_setB | apply cur_drew | apply cur_drewN)); done) | omega | (simp only [gz, Value.cells, oneC]; first | done | omega) | ((simp only [List.mem_cons, List.not_mem_nil, or_false, gz]); omega) | rfl)) only [↓gsd, gs, ev, Nat.reduceAdd, Nat.reduceEqDiff, oneC, Value.cells, Option.isNone, e0, e1, e5, e6, Int.natCast_add i 1, Int.natCast_one]
        have e1' : allP (ps.take (i + 1)) key = allP (ps.take i) key := by rw [htk, allP_app]; simp [allP, hq]
        rw [e1']
        exact ⟨hown, hfr, hf⟩
      · simp (maxSteps := 4000000) (disch := (first | assumption | exact List.not_mem_nil | exact Fr.refl _ _ | ((repeat (first | assumption | apply cur_alloc | apply cur_setB | apply cur_drew | apply cur_drewN)); done) | omega | (simp only [gz, Value.cells, oneC]; first | done | omega) | ((simp only [List.mem_cons, List.not_mem_nil, or_false, gz]); omega) | rfl)) only [↓gsd, gs, ev, Nat.reduceAdd, Nat.reduceEqDiff, oneC, Value.cells, Option.isNone, e6, numOf, Int.toNat_natCast, i3]; omega
  · have d : decide ((i : Int) < (ps.length : Int)) = false := decide_eq_false (by omega)
    simp (maxSteps := 4000000) (disch := (first | assumption | exact List.not_mem_nil | exact Fr.refl _ _ | ((repeat (first | assumption | apply cur_alloc | apply cur_setB | apply cur_drew | apply cur_drewN)); done) | omega | (simp only [gz, Value.cells, oneC]; first | done | omega) | ((simp only [List.mem_cons, List.not_mem_nil, or_false, gz]); omega) | rfl)) only [↓gsd, gs, ev, Nat.reduceAdd, Nat.reduceEqDiff, oneC, Value.cells, Option.isNone, gt, frT_self, frT_drew, frT_drew0, frT_alloc, ↓hk96, e0, e1, e5, e6, hh1, d]
    rw [List.take_of_length_le (by omega)] at hown
    exact hK _ _ hown hfr hf
end Go.Proofs.Ytenokheiindfkaa
