/- The walks of a gap's functions, instance I. -/
import Derived.Test.YtenokheiindfkaaM1
set_option linter.unusedVariables false
set_option linter.unusedSimpArgs false
set_option maxRecDepth 10000
namespace Go.Proofs.Ytenokheiindfkaa
open Go.VW
abbrev GapAtI := GapAt (α := Int) 130 (Value.int .i64)
theorem clearI {w : World} {gb most : Nat} {a0 a : Int} {mv : Value} {K : Value → World → Prop} (h : w.heap[gb]? = some (.cells ([.int .i64 a0, .int .i64 most, mv] : List Value).toArray 130 (0, 0)))
    (hK : ∀ gm w', Fr [gb] w w' → w.heap.size ≤ gm → GapAtI w' gb gm ⟨clamp a, most, []⟩ → K (.tuple #[]) w') : CallsN Try.prog 42 [.pointer (some ⟨gb, 0, none⟩), .int .i64 a] w K := by
  have cw := cur w
  have hlt := lt_of_get _ _ h
  refine call42 ?_
  simp (maxSteps := 4000000) (disch := (first | assumption | exact List.not_mem_nil | ((repeat (first | assumption | apply cur_alloc | apply cur_setB | apply cur_drew | apply cur_drewN)); done) | omega | (simp only [gz, Value.cells, oneC]; first | done | omega) | ((simp only [List.mem_cons, List.not_mem_nil, or_false, gz]); omega) | rfl)) only [↓gsd, gs, ev, Nat.reduceAdd, Nat.reduceEqDiff, oneC, Value.cells, Option.isNone, gt, ↓hk42, h]
  refine hK w.heap.size _ (by (repeat (first | exact Fr.refl _ _ | assumption | with_reducible apply Fr.alloc | with_reducible apply Fr.drew | with_reducible refine Fr.setB ?_ _ _ (.inr (by first | omega | (simp only [gz]; omega))) | with_reducible refine Fr.setB ?_ _ _ (.inl (by first | assumption | simp)) | with_reducible refine Fr.trans' ?_ (by assumption)))) (Nat.le_refl _) ⟨?_, ?_⟩
  · simp (maxSteps := 4000000) (disch := (first | assumption | exact List.not_mem_nil | ((repeat (first | assumption | apply cur_alloc | apply cur_setB | apply cur_drew | apply cur_drewN)); done) | omega | (simp only [gz, Value.cells, oneC]; first | done | omega) | ((simp only [List.mem_cons, List.not_mem_nil, or_false, gz]); omega) | rfl)) only [↓gsd, gs, ev, Nat.reduceAdd, Nat.reduceEqDiff, oneC, Value.cells, Option.isNone, h]; rfl
  · simp (maxSteps := 4000000) (disch := (first | assumption | exact List.not_mem_nil | ((repeat (first | assumption | apply cur_alloc | apply cur_setB | apply cur_drew | apply cur_drewN)); done) | omega | (simp only [gz, Value.cells, oneC]; first | done | omega) | ((simp only [List.mem_cons, List.not_mem_nil, or_false, gz]); omega) | rfl)) only [↓gsd, gs, ev, Nat.reduceAdd, Nat.reduceEqDiff, oneC, Value.cells, Option.isNone, h]; exact MapAt.empty
theorem newI {a m : Int} {w : World} {K : Value → World → Prop} (hK : ∀ gb gm w', Fr [] w w' → w.heap.size ≤ gb → w.heap.size ≤ gm → GapAtI w' gb gm (GS.new a m) → K (.pointer (some ⟨gb, 0, none⟩)) w') :
    CallsN Try.prog 30 [.int .i64 a, .int .i64 m] w K := by
  have cw := cur w
  refine call30 ?_
  simp (maxSteps := 4000000) (disch := (first | assumption | exact List.not_mem_nil | ((repeat (first | assumption | apply cur_alloc | apply cur_setB | apply cur_drew | apply cur_drewN)); done) | omega | (simp only [gz, Value.cells, oneC]; first | done | omega) | ((simp only [List.mem_cons, List.not_mem_nil, or_false, gz]); omega) | rfl)) only [↓gsd, gs, ev, Nat.reduceAdd, Nat.reduceEqDiff, oneC, Value.cells, Option.isNone, gt, ↓hk30]
  have e : ((((min (max m 0) 256).toNat : Nat)) : Int) = min (max m 0) 256 := by omega
  rw [← e]
  refine clearI (most := (min (max m 0) 256).toNat) (get_alloc_new _ _) fun gm w' hf hgm hg => ?_
  have cw' := cur w'
  simp (maxSteps := 4000000) (disch := (first | assumption | exact List.not_mem_nil | ((repeat (first | assumption | apply cur_alloc | apply cur_setB | apply cur_drew | apply cur_drewN)); done) | omega | (simp only [gz, Value.cells, oneC]; first | done | omega) | ((simp only [List.mem_cons, List.not_mem_nil, or_false, gz]); omega) | rfl)) only [↓gsd, gs, ev, Nat.reduceAdd, Nat.reduceEqDiff, oneC, Value.cells, Option.isNone, gt, ↓hk30]
  refine hK w.heap.size gm w' (((Fr.refl [] w).alloc _).trans hf fun x hx => ?_) (Nat.le_refl _) (by rw [size_alloc] at hgm; omega) hg
  simp at hx; exact .inr (by omega)

set_option maxHeartbeats 4000000 in
theorem outI {w : World} {gb gm : Nat} {g : GS Int} {v : Int} {K : Value → World → Prop} (h : GapAtI w gb gm g) (ha0 : 0 ≤ g.at_) (ha1 : g.at_ + 1 ≤ 1099511627776) (hr : ∀ p ∈ g.ws, p.1 ≤ 1099511627776) (hl : g.ws.length ≤ 256)
    (hK : ∀ vo w', Own 1 3 w' vo (v :: (drain g.ws.length (g.at_ + 1) g.ws).1).length (cellsOf (fun v => [Value.int .i64 v]) (v :: (drain g.ws.length (g.at_ + 1) g.ws).1)) → (∀ x, vo.ownBlock = some x → w.heap.size ≤ x) → Fr [gb, gm] w w' →
      GapAtI w' gb gm ⟨(drain g.ws.length (g.at_ + 1) g.ws).2.1, g.most, (drain g.ws.length (g.at_ + 1) g.ws).2.2⟩ → K vo w') :
    CallsN Try.prog 66 [.pointer (some ⟨gb, 0, none⟩), .int .i64 v] w K := by
  have cw := cur w
  obtain ⟨hgb, hgm, hne⟩ := h.lt
  have hh := h.head
  refine call66 ?_
  simp (maxSteps := 4000000) (disch := (first | assumption | exact List.not_mem_nil | ((repeat (first | assumption | apply cur_alloc | apply cur_setB | apply cur_drew | apply cur_drewN)); done) | omega | (simp only [gz, Value.cells, oneC]; first | done | omega) | ((simp only [List.mem_cons, List.not_mem_nil, or_false, gz]); omega) | rfl)) only [↓gsd, gs, ev, Nat.reduceAdd, Nat.reduceEqDiff, oneC, Value.cells, Option.isNone, gt, ↓hk66, hh]
  obtain ⟨tot, htot⟩ : ∃ t, t = drain g.ws.length (g.at_ + 1) g.ws := ⟨_, rfl⟩
  rw [← htot] at hK
  refine loop_intro (fun e w' => ∃ (f : Nat) (a : Int) (ws : List (Int × Int)) (pre : List Int) (vo : Value), e 0 = .pointer (some ⟨gb, 0, none⟩) ∧ e 5 = vo ∧ Own 1 3 w' vo pre.length (cellsOf (fun v => [Value.int .i64 v]) pre) ∧ (∀ x, vo.ownBlock = some x → w.heap.size ≤ x) ∧
      GapAtI w' gb gm ⟨a, g.most, ws⟩ ∧ ws.length ≤ f ∧ v :: tot.1 = pre ++ (drain f a ws).1 ∧ tot.2 = (drain f a ws).2 ∧ 0 ≤ a ∧ a ≤ 1099511627776 ∧ (∀ p ∈ ws, p.1 ≤ 1099511627776) ∧ pre.length + ws.length ≤ 257 ∧ Fr [gb, gm] w w')
    (fun e w' => mapN w'.heap[gm]?) ?_ ?_
  · refine ⟨g.ws.length, g.at_ + 1, g.ws, [v], .slice (some ⟨w.heap.size, 0, none⟩) 1 1, ?_⟩
    simp (maxSteps := 4000000) (disch := (first | assumption | exact List.not_mem_nil | ((repeat (first | assumption | apply cur_alloc | apply cur_setB | apply cur_drew | apply cur_drewN)); done) | omega | (simp only [gz, Value.cells, oneC]; first | done | omega) | ((simp only [List.mem_cons, List.not_mem_nil, or_false, gz]); omega) | rfl)) only [↓gsd, gs, ev, Nat.reduceAdd, Nat.reduceEqDiff, oneC, Value.cells, Option.isNone, hh]
    refine ⟨Own.mk (n := 1) (by simp (maxSteps := 4000000) (disch := (first | assumption | exact List.not_mem_nil | ((repeat (first | assumption | apply cur_alloc | apply cur_setB | apply cur_drew | apply cur_drewN)); done) | omega | (simp only [gz, Value.cells, oneC]; first | done | omega) | ((simp only [List.mem_cons, List.not_mem_nil, or_false, gz]); omega) | rfl)) only [↓gsd, gs, ev, Nat.reduceAdd, Nat.reduceEqDiff, oneC, Value.cells, Option.isNone, hh]; rfl) rfl (by decide), fun x hx => ?_, ⟨by simp (maxSteps := 4000000) (disch := (first | assumption | exact List.not_mem_nil | ((repeat (first | assumption | apply cur_alloc | apply cur_setB | apply cur_drew | apply cur_drewN)); done) | omega | (simp only [gz, Value.cells, oneC]; first | done | omega) | ((simp only [List.mem_cons, List.not_mem_nil, or_false, gz]); omega) | rfl)) only [↓gsd, gs, ev, Nat.reduceAdd, Nat.reduceEqDiff, oneC, Value.cells, Option.isNone, hh], ?_⟩, Nat.le_refl _, ?_, ?_, ?_, ha1, hr, ?_, ?_⟩
    · simp only [Value.ownBlock, Option.some.injEq] at hx; omega
    · have := h.map
      simp (maxSteps := 4000000) (disch := (first | assumption | exact List.not_mem_nil | ((repeat (first | assumption | apply cur_alloc | apply cur_setB | apply cur_drew | apply cur_drewN)); done) | omega | (simp only [gz, Value.cells, oneC]; first | done | omega) | ((simp only [List.mem_cons, List.not_mem_nil, or_false, gz]); omega) | rfl)) only [↓gsd, gs, ev, Nat.reduceAdd, Nat.reduceEqDiff, oneC, Value.cells, Option.isNone, hh]; exact this
    · rw [htot]
    · rw [htot]
    · omega
    · show 1 + g.ws.length ≤ 257
      omega
    · (repeat (first | exact Fr.refl _ _ | assumption | with_reducible apply Fr.alloc | with_reducible apply Fr.drew | with_reducible refine Fr.setB ?_ _ _ (.inr (by first | omega | (simp only [gz]; omega))) | with_reducible refine Fr.setB ?_ _ _ (.inl (by first | assumption | simp)) | with_reducible refine Fr.trans' ?_ (by assumption)))
  · rintro e w1 k ⟨f, a, ws, pre, vo, e0, e5, hown, hfresh, hg, hlf, ht1, ht2, ha0, ha1, hr, hpl, hf⟩ hk
    have cw1 := cur w1
    have hz1 := hf.size
    have hh1 := hg.head
    have hlt1 := hg.lt
    obtain ⟨ents, clock, hbo, _⟩ := id hg.map.ex
    have hm := hg.map
    rw [hbo] at hm
    have hmv := fun orig K => mapV_at inj_int hm orig K
    have hsz := MapAt.sizeN hm
    rw [entV_len] at hsz
    cases hx : aget ws (a + 1) with
    | none =>
      have hx' : aget (entV (Value.int .i64) ws) (a + 1) = none := by rw [entV_get, hx]; rfl
      rw [drain_none hlf hx] at ht1 ht2
      simp only [List.append_nil] at ht1
      simp (maxSteps := 4000000) (disch := (first | assumption | exact List.not_mem_nil | ((repeat (first | assumption | apply cur_alloc | apply cur_setB | apply cur_drew | apply cur_drewN)); done) | omega | (simp only [gz, Value.cells, oneC]; first | done | omega) | ((simp only [List.mem_cons, List.not_mem_nil, or_false, gz]); omega) | rfl)) only [↓gsd, gs, ev, Nat.reduceAdd, Nat.reduceEqDiff, oneC, Value.cells, Option.isNone, gt, ↓hk66, e0, e5]
      refine draw_intro [] ?_
      simp (maxSteps := 4000000) (disch := (first | assumption | exact List.not_mem_nil | ((repeat (first | assumption | apply cur_alloc | apply cur_setB | apply cur_drew | apply cur_drewN)); done) | omega | (simp only [gz, Value.cells, oneC]; first | done | omega) | ((simp only [List.mem_cons, List.not_mem_nil, or_false, gz]); omega) | rfl)) only [↓gsd, gs, ev, Nat.reduceAdd, Nat.reduceEqDiff, oneC, Value.cells, Option.isNone, gt, ↓hk66, e0, e5, hh1, hbo, hmv, hx']
      rw [ht1, ht2] at hK
      exact hK vo _ (hown.fr (M := []) (w := w1) (by (repeat (first | exact Fr.refl _ _ | assumption | with_reducible apply Fr.alloc | with_reducible apply Fr.drew | with_reducible refine Fr.setB ?_ _ _ (.inr (by first | omega | (simp only [gz]; omega))) | with_reducible refine Fr.setB ?_ _ _ (.inl (by first | assumption | simp)) | with_reducible refine Fr.trans' ?_ (by assumption)))) (by simp)) hfresh (hf.trans' (by (repeat (first | exact Fr.refl _ _ | assumption | with_reducible apply Fr.alloc | with_reducible apply Fr.drew | with_reducible refine Fr.setB ?_ _ _ (.inr (by first | omega | (simp only [gz]; omega))) | with_reducible refine Fr.setB ?_ _ _ (.inl (by first | assumption | simp)) | with_reducible refine Fr.trans' ?_ (by assumption))))) (hg.frN (by (repeat (first | exact Fr.refl _ _ | assumption | with_reducible apply Fr.alloc | with_reducible apply Fr.drew | with_reducible refine Fr.setB ?_ _ _ (.inr (by first | omega | (simp only [gz]; omega))) | with_reducible refine Fr.setB ?_ _ _ (.inl (by first | assumption | simp)) | with_reducible refine Fr.trans' ?_ (by assumption)))))
    | some x =>
      obtain ⟨f', hf', hd1, hd2, hd3⟩ := drain_some hlf hx
      have hx' : aget (entV (Value.int .i64) ws) (a + 1) = some ((Value.int .i64) x) := by rw [entV_get, hx]; rfl
      have hxr := hr _ (aget_mem _ _ hx)
      simp only at hxr
      simp (maxSteps := 4000000) (disch := (first | assumption | exact List.not_mem_nil | ((repeat (first | assumption | apply cur_alloc | apply cur_setB | apply cur_drew | apply cur_drewN)); done) | omega | (simp only [gz, Value.cells, oneC]; first | done | omega) | ((simp only [List.mem_cons, List.not_mem_nil, or_false, gz]); omega) | rfl)) only [↓gsd, gs, ev, Nat.reduceAdd, Nat.reduceEqDiff, oneC, Value.cells, Option.isNone, gt, ↓hk66, e0, e5]
      refine draw_intro [] ?_
      simp (maxSteps := 4000000) (disch := (first | assumption | exact List.not_mem_nil | ((repeat (first | assumption | apply cur_alloc | apply cur_setB | apply cur_drew | apply cur_drewN)); done) | omega | (simp only [gz, Value.cells, oneC]; first | done | omega) | ((simp only [List.mem_cons, List.not_mem_nil, or_false, gz]); omega) | rfl)) only [↓gsd, gs, ev, Nat.reduceAdd, Nat.reduceEqDiff, oneC, Value.cells, Option.isNone, gt, ↓hk66, e0, e5, hh1, hbo, hmv, hx']
      generalize hW : World.alloc w1.drew _ = w3
      have hf3 : Fr [] w1 w3 := by rw [← hW]; (repeat (first | exact Fr.refl _ _ | assumption | with_reducible apply Fr.alloc | with_reducible apply Fr.drew | with_reducible refine Fr.setB ?_ _ _ (.inr (by first | omega | (simp only [gz]; omega))) | with_reducible refine Fr.setB ?_ _ _ (.inl (by first | assumption | simp)) | with_reducible refine Fr.trans' ?_ (by assumption)))
      have hz3 : w1.heap.size < w3.heap.size := by rw [← hW]; simp only [gz]; omega
      have hsl0 : w3.heap[w1.heap.size]? = some (.cells ((fun v => [Value.int .i64 v]) x).toArray 3 (0, 0)) := by rw [← hW]; simp (maxSteps := 4000000) (disch := (first | assumption | exact List.not_mem_nil | ((repeat (first | assumption | apply cur_alloc | apply cur_setB | apply cur_drew | apply cur_drewN)); done) | omega | (simp only [gz, Value.cells, oneC]; first | done | omega) | ((simp only [List.mem_cons, List.not_mem_nil, or_false, gz]); omega) | rfl)) only [↓gsd, gs, ev, Nat.reduceAdd, Nat.reduceEqDiff, oneC, Value.cells, Option.isNone] <;> rfl
      have hsl : Sl 1 w3 (.slice (some ⟨w1.heap.size, 0, none⟩) 1 1) 1 ((fun v => [Value.int .i64 v]) x) := ⟨rfl, .inr ⟨_, 0, 1, _, 3, (0, 0), rfl, hsl0, rfl⟩⟩
      clear hW
      obtain ⟨v4, w4, hr4, hown4, hf4, hbk⟩ := ap68 (ty := 68) (hown.fr (M := []) hf3 (by simp)) hsl rfl (by omega)
      have cw4 := cur w4
      have hz4 := hf4.size
      have hnb : ∀ y, y < w.heap.size → y ∉ blkL vo := fun y hy hm => by
        unfold blkL at hm
        split at hm
        · rename_i g' hg'
          have := hfresh g' hg'
          simp at hm; omega
        · simp at hm
      have hg4 := (hg.frN hf3).fr hf4 (hnb gb hgb) (hnb gm hgm)
      have hh4 := hg4.head
      have hm4 := hg4.map
      have hlt4 := hg4.lt
      obtain ⟨ents4, clock4, hbo4, _⟩ := id hg4.map.ex
      rw [hbo4] at hm4
      have hmv4 := fun orig K => mapV_at inj_int hm4 orig K
      simp (maxSteps := 4000000) (disch := (first | assumption | exact List.not_mem_nil | ((repeat (first | assumption | apply cur_alloc | apply cur_setB | apply cur_drew | apply cur_drewN)); done) | omega | (simp only [gz, Value.cells, oneC]; first | done | omega) | ((simp only [List.mem_cons, List.not_mem_nil, or_false, gz]); omega) | rfl)) only [↓gsd, gs, ev, Nat.reduceAdd, Nat.reduceEqDiff, oneC, Value.cells, Option.isNone, gt, ↓hk66, e0, e5, hr4, hh4]
      have hdel := (map_delete (kt' := 2) Try.runUnderlying128 kOK128 0 hg4.map (a + 1)).2
      rw [hbo4] at hdel
      simp only [entV_del] at hdel
      refine draw_intro [gm] ?_
      simp (maxSteps := 4000000) (disch := (first | assumption | exact List.not_mem_nil | ((repeat (first | assumption | apply cur_alloc | apply cur_setB | apply cur_drew | apply cur_drewN)); done) | omega | (simp only [gz, Value.cells, oneC]; first | done | omega) | ((simp only [List.mem_cons, List.not_mem_nil, or_false, gz]); omega) | rfl)) only [↓gsd, gs, ev, Nat.reduceAdd, Nat.reduceEqDiff, oneC, Value.cells, Option.isNone, gt, ↓hk66, e0, e5, hh4, hbo4, hmv4]
      refine ⟨by (repeat (first | exact Fr.refl _ _ | assumption | with_reducible apply Fr.alloc | with_reducible apply Fr.drew | with_reducible refine Fr.setB ?_ _ _ (.inr (by first | omega | (simp only [gz]; omega))) | with_reducible refine Fr.setB ?_ _ _ (.inl (by first | assumption | simp)) | with_reducible refine Fr.trans' ?_ (by assumption))), hk _ _ ⟨f', a + 1, adel ws (a + 1), pre ++ [x], v4, ?_⟩ ?_⟩
      · simp (maxSteps := 4000000) (disch := (first | assumption | exact List.not_mem_nil | ((repeat (first | assumption | apply cur_alloc | apply cur_setB | apply cur_drew | apply cur_drewN)); done) | omega | (simp only [gz, Value.cells, oneC]; first | done | omega) | ((simp only [List.mem_cons, List.not_mem_nil, or_false, gz]); omega) | rfl)) only [↓gsd, gs, ev, Nat.reduceAdd, Nat.reduceEqDiff, oneC, Value.cells, Option.isNone, e0, e5, hh4]
        refine ⟨?_, ?_, ⟨?_, ?_⟩, hd2, ?_, ?_, ?_, ?_, ?_, ?_, ?_⟩
        · rw [List.length_append, cellsOf_append, cellsOf_one]
          refine (hown4.fr (M := [gb, gm]) (by (repeat (first | exact Fr.refl _ _ | assumption | with_reducible apply Fr.alloc | with_reducible apply Fr.drew | with_reducible refine Fr.setB ?_ _ _ (.inr (by first | omega | (simp only [gz]; omega))) | with_reducible refine Fr.setB ?_ _ _ (.inl (by first | assumption | simp)) | with_reducible refine Fr.trans' ?_ (by assumption)))) ?_)
          intro y hy e
          rcases hbk with h1 | ⟨b', h1, h2⟩
          · have := hfresh y (h1 ▸ e)
            simp at hy; omega
          · rw [h1] at e; cases e
            simp at hy; omega
        · intro y hy
          rcases hbk with h1 | ⟨b', h1, h2⟩
          · exact hfresh y (h1 ▸ hy)
          · rw [h1] at hy; cases hy; omega
        · simp (maxSteps := 4000000) (disch := (first | assumption | exact List.not_mem_nil | ((repeat (first | assumption | apply cur_alloc | apply cur_setB | apply cur_drew | apply cur_drewN)); done) | omega | (simp only [gz, Value.cells, oneC]; first | done | omega) | ((simp only [List.mem_cons, List.not_mem_nil, or_false, gz]); omega) | rfl)) only [↓gsd, gs, ev, Nat.reduceAdd, Nat.reduceEqDiff, oneC, Value.cells, Option.isNone, hh4]
        · simp (maxSteps := 4000000) (disch := (first | assumption | exact List.not_mem_nil | ((repeat (first | assumption | apply cur_alloc | apply cur_setB | apply cur_drew | apply cur_drewN)); done) | omega | (simp only [gz, Value.cells, oneC]; first | done | omega) | ((simp only [List.mem_cons, List.not_mem_nil, or_false, gz]); omega) | rfl)) only [↓gsd, gs, ev, Nat.reduceAdd, Nat.reduceEqDiff, oneC, Value.cells, Option.isNone, hh4]; exact hdel
        · rw [ht1, hd3]; simp
        · rw [ht2, hd3]
        · omega
        · omega
        · intro p hp; exact hr p (adel_mem _ _ hp)
        · simp; omega
        · exact (((hf.trans' hf3).trans hf4 fun y hy => .inr (Nat.le_of_not_lt fun hlt => hnb y hlt hy)).trans (M' := [gb, gm]) (by (repeat (first | exact Fr.refl _ _ | assumption | with_reducible apply Fr.alloc | with_reducible apply Fr.drew | with_reducible refine Fr.setB ?_ _ _ (.inr (by first | omega | (simp only [gz]; omega))) | with_reducible refine Fr.setB ?_ _ _ (.inl (by first | assumption | simp)) | with_reducible refine Fr.trans' ?_ (by assumption)))) fun y hy => .inl hy)
      · have := MapAt.sizeN hdel
        rw [entV_len] at this
        simp (maxSteps := 4000000) (disch := (first | assumption | exact List.not_mem_nil | ((repeat (first | assumption | apply cur_alloc | apply cur_setB | apply cur_drew | apply cur_drewN)); done) | omega | (simp only [gz, Value.cells, oneC]; first | done | omega) | ((simp only [List.mem_cons, List.not_mem_nil, or_false, gz]); omega) | rfl)) only [↓gsd, gs, ev, Nat.reduceAdd, Nat.reduceEqDiff, oneC, Value.cells, Option.isNone, hbo4]
        rw [this, hbo, hsz]
        show (adel ws (a + 1)).length < ws.length
        omega

set_option maxHeartbeats 4000000 in
theorem putI {w : World} {gb gm : Nat} {g : GS Int} {n : Int} {v : Int} {K : Value → World → Prop} (h : GapAtI w gb gm g) (hwf : g.WF)
    (hK : ∀ vo w', Own 1 3 w' vo (g.put n v).1.1.length (cellsOf (fun v => [Value.int .i64 v]) (g.put n v).1.1) → (∀ x, vo.ownBlock = some x → w.heap.size ≤ x) → Fr [gb, gm] w w' → GapAtI w' gb gm (g.put n v).2 → K (.tuple ([vo, .bool (g.put n v).1.2] : List Value).toArray) w') :
    CallsN Try.prog 31 [.pointer (some ⟨gb, 0, none⟩), .int .i64 n, .int .i64 v] w K := by
  have cw := cur w
  obtain ⟨hgb, hgm, hne⟩ := h.lt
  have hh := h.head
  have ha0 := hwf.a0
  have ha1 := hwf.a1
  have hnil : ∀ w' : World, Own 1 3 w' (.slice none 0 0) ([] : List Int).length (cellsOf (fun v => [Value.int .i64 v]) []) := fun w' => Own.nil
  have hnf : ∀ (w' : World) x, (Value.slice none 0 0).ownBlock = some x → w.heap.size ≤ x := fun w' x hx => by simp [Value.ownBlock] at hx
  obtain ⟨ents, clock, hbo, _⟩ := id h.map.ex
  have hm := h.map
  rw [hbo] at hm
  have hmv := fun orig K => mapV_at inj_int hm orig K
  refine call31 ?_
  by_cases c1 : n ≤ g.at_
  · have d1 : decide (n ≤ g.at_) = true := decide_eq_true c1
    have hp : g.put n v = (([], false), g) := by unfold GS.put; rw [if_pos (.inl c1)]
    rw [hp] at hK
    simp (maxSteps := 4000000) (disch := (first | assumption | exact List.not_mem_nil | ((repeat (first | assumption | apply cur_alloc | apply cur_setB | apply cur_drew | apply cur_drewN)); done) | omega | (simp only [gz, Value.cells, oneC]; first | done | omega) | ((simp only [List.mem_cons, List.not_mem_nil, or_false, gz]); omega) | rfl)) only [↓gsd, gs, ev, Nat.reduceAdd, Nat.reduceEqDiff, oneC, Value.cells, Option.isNone, gt, ↓hk31, hh, d1]
    exact hK _ _ (hnil _) (hnf w) (by (repeat (first | exact Fr.refl _ _ | assumption | with_reducible apply Fr.alloc | with_reducible apply Fr.drew | with_reducible refine Fr.setB ?_ _ _ (.inr (by first | omega | (simp only [gz]; omega))) | with_reducible refine Fr.setB ?_ _ _ (.inl (by first | assumption | simp)) | with_reducible refine Fr.trans' ?_ (by assumption)))) (h.frN (by (repeat (first | exact Fr.refl _ _ | assumption | with_reducible apply Fr.alloc | with_reducible apply Fr.drew | with_reducible refine Fr.setB ?_ _ _ (.inr (by first | omega | (simp only [gz]; omega))) | with_reducible refine Fr.setB ?_ _ _ (.inl (by first | assumption | simp)) | with_reducible refine Fr.trans' ?_ (by assumption)))))
  have d1 : decide (n ≤ g.at_) = false := decide_eq_false c1
  by_cases c2 : 1099511627776 < n
  · have d2 : decide (1099511627776 < n) = true := decide_eq_true c2
    have hp : g.put n v = (([], false), g) := by unfold GS.put; rw [if_pos (.inr (.inl c2))]
    rw [hp] at hK
    simp (maxSteps := 4000000) (disch := (first | assumption | exact List.not_mem_nil | ((repeat (first | assumption | apply cur_alloc | apply cur_setB | apply cur_drew | apply cur_drewN)); done) | omega | (simp only [gz, Value.cells, oneC]; first | done | omega) | ((simp only [List.mem_cons, List.not_mem_nil, or_false, gz]); omega) | rfl)) only [↓gsd, gs, ev, Nat.reduceAdd, Nat.reduceEqDiff, oneC, Value.cells, Option.isNone, gt, ↓hk31, hh, d1, d2]
    exact hK _ _ (hnil _) (hnf w) (by (repeat (first | exact Fr.refl _ _ | assumption | with_reducible apply Fr.alloc | with_reducible apply Fr.drew | with_reducible refine Fr.setB ?_ _ _ (.inr (by first | omega | (simp only [gz]; omega))) | with_reducible refine Fr.setB ?_ _ _ (.inl (by first | assumption | simp)) | with_reducible refine Fr.trans' ?_ (by assumption)))) (h.frN (by (repeat (first | exact Fr.refl _ _ | assumption | with_reducible apply Fr.alloc | with_reducible apply Fr.drew | with_reducible refine Fr.setB ?_ _ _ (.inr (by first | omega | (simp only [gz]; omega))) | with_reducible refine Fr.setB ?_ _ _ (.inl (by first | assumption | simp)) | with_reducible refine Fr.trans' ?_ (by assumption)))))
  have d2 : decide (1099511627776 < n) = false := decide_eq_false c2
  cases hx : aget g.ws n with
  | some x =>
    have hx' : aget (entV (Value.int .i64) g.ws) n = some ((Value.int .i64) x) := by rw [entV_get, hx]; rfl
    have hp : g.put n v = (([], false), g) := by unfold GS.put; rw [if_pos (.inr (.inr (by rw [hx]; rfl)))]
    rw [hp] at hK
    simp (maxSteps := 4000000) (disch := (first | assumption | exact List.not_mem_nil | ((repeat (first | assumption | apply cur_alloc | apply cur_setB | apply cur_drew | apply cur_drewN)); done) | omega | (simp only [gz, Value.cells, oneC]; first | done | omega) | ((simp only [List.mem_cons, List.not_mem_nil, or_false, gz]); omega) | rfl)) only [↓gsd, gs, ev, Nat.reduceAdd, Nat.reduceEqDiff, oneC, Value.cells, Option.isNone, gt, ↓hk31, hh, d1, d2, hbo, hmv, hx']
    exact hK _ _ (hnil _) (hnf w) (by (repeat (first | exact Fr.refl _ _ | assumption | with_reducible apply Fr.alloc | with_reducible apply Fr.drew | with_reducible refine Fr.setB ?_ _ _ (.inr (by first | omega | (simp only [gz]; omega))) | with_reducible refine Fr.setB ?_ _ _ (.inl (by first | assumption | simp)) | with_reducible refine Fr.trans' ?_ (by assumption)))) (h.frN (by (repeat (first | exact Fr.refl _ _ | assumption | with_reducible apply Fr.alloc | with_reducible apply Fr.drew | with_reducible refine Fr.setB ?_ _ _ (.inr (by first | omega | (simp only [gz]; omega))) | with_reducible refine Fr.setB ?_ _ _ (.inl (by first | assumption | simp)) | with_reducible refine Fr.trans' ?_ (by assumption)))))
  | none =>
    have hx' : aget (entV (Value.int .i64) g.ws) n = none := by rw [entV_get, hx]; rfl
    have hno : ¬ (n ≤ g.at_ ∨ 1099511627776 < n ∨ (aget g.ws n).isSome) := by
      rw [hx]; simp; exact ⟨by omega, by omega⟩
    by_cases c4 : n = g.at_ + 1
    · have d4 : decide (n = g.at_ + 1) = true := decide_eq_true c4
      have hp : g.put n v = ((v :: (drain g.ws.length n g.ws).1, false), ⟨(drain g.ws.length n g.ws).2.1, g.most, (drain g.ws.length n g.ws).2.2⟩) := by unfold GS.put; rw [if_neg hno, if_pos c4]
      rw [hp] at hK
      simp (maxSteps := 4000000) (disch := (first | assumption | exact List.not_mem_nil | ((repeat (first | assumption | apply cur_alloc | apply cur_setB | apply cur_drew | apply cur_drewN)); done) | omega | (simp only [gz, Value.cells, oneC]; first | done | omega) | ((simp only [List.mem_cons, List.not_mem_nil, or_false, gz]); omega) | rfl)) only [↓gsd, gs, ev, Nat.reduceAdd, Nat.reduceEqDiff, oneC, Value.cells, Option.isNone, gt, ↓hk31, hh, d1, d2, hbo, hmv, hx', d4]
      refine outI (h.frN (w := w) (by (repeat (first | exact Fr.refl _ _ | assumption | with_reducible apply Fr.alloc | with_reducible apply Fr.drew | with_reducible refine Fr.setB ?_ _ _ (.inr (by first | omega | (simp only [gz]; omega))) | with_reducible refine Fr.setB ?_ _ _ (.inl (by first | assumption | simp)) | with_reducible refine Fr.trans' ?_ (by assumption))))) ha0 (by omega) (fun p hp => (hwf.rng p hp).2) (by have := hwf.len; have := hwf.m; omega) fun vo w' hown hfr hf hg => ?_
      rw [← c4] at hown hg
      exact hK vo w' hown (fun x hx => Nat.le_trans (by first | exact Nat.le_refl _ | (simp only [gz]; omega)) (hfr x hx)) (Fr.trans (a := w) (by (repeat (first | exact Fr.refl _ _ | assumption | with_reducible apply Fr.alloc | with_reducible apply Fr.drew | with_reducible refine Fr.setB ?_ _ _ (.inr (by first | omega | (simp only [gz]; omega))) | with_reducible refine Fr.setB ?_ _ _ (.inl (by first | assumption | simp)) | with_reducible refine Fr.trans' ?_ (by assumption)))) hf fun x hx => .inl hx) hg
    · have d4 : decide (n = g.at_ + 1) = false := decide_eq_false c4
      by_cases c5 : g.most ≤ g.ws.length
      · have d5 : decide ((g.most : Int) ≤ ((entV (Value.int .i64) g.ws).length : Int)) = true := decide_eq_true (by rw [entV_len]; omega)
        have hp : g.put n v = (([], true), ⟨g.at_, g.most, []⟩) := by unfold GS.put; rw [if_neg hno, if_neg c4, if_pos c5]
        rw [hp] at hK
        have hclr := (map_clear (kv := Value.int .i64) Try.runUnderlying128 0 h.map).2
        rw [hbo] at hclr
        simp (maxSteps := 4000000) (disch := (first | assumption | exact List.not_mem_nil | ((repeat (first | assumption | apply cur_alloc | apply cur_setB | apply cur_drew | apply cur_drewN)); done) | omega | (simp only [gz, Value.cells, oneC]; first | done | omega) | ((simp only [List.mem_cons, List.not_mem_nil, or_false, gz]); omega) | rfl)) only [↓gsd, gs, ev, Nat.reduceAdd, Nat.reduceEqDiff, oneC, Value.cells, Option.isNone, gt, ↓hk31, hh, d1, d2, hbo, hmv, hx', d4]
        refine draw_intro [] ?_
        simp (maxSteps := 4000000) (disch := (first | assumption | exact List.not_mem_nil | ((repeat (first | assumption | apply cur_alloc | apply cur_setB | apply cur_drew | apply cur_drewN)); done) | omega | (simp only [gz, Value.cells, oneC]; first | done | omega) | ((simp only [List.mem_cons, List.not_mem_nil, or_false, gz]); omega) | rfl)) only [↓gsd, gs, ev, Nat.reduceAdd, Nat.reduceEqDiff, oneC, Value.cells, Option.isNone, gt, ↓hk31, hh, hbo, hmv, d5]
        refine hK _ _ (hnil _) (hnf w) (by (repeat (first | exact Fr.refl _ _ | assumption | with_reducible apply Fr.alloc | with_reducible apply Fr.drew | with_reducible refine Fr.setB ?_ _ _ (.inr (by first | omega | (simp only [gz]; omega))) | with_reducible refine Fr.setB ?_ _ _ (.inl (by first | assumption | simp)) | with_reducible refine Fr.trans' ?_ (by assumption)))) ⟨?_, ?_⟩
        · simp (maxSteps := 4000000) (disch := (first | assumption | exact List.not_mem_nil | ((repeat (first | assumption | apply cur_alloc | apply cur_setB | apply cur_drew | apply cur_drewN)); done) | omega | (simp only [gz, Value.cells, oneC]; first | done | omega) | ((simp only [List.mem_cons, List.not_mem_nil, or_false, gz]); omega) | rfl)) only [↓gsd, gs, ev, Nat.reduceAdd, Nat.reduceEqDiff, oneC, Value.cells, Option.isNone, hh]
        · simp (maxSteps := 4000000) (disch := (first | assumption | exact List.not_mem_nil | ((repeat (first | assumption | apply cur_alloc | apply cur_setB | apply cur_drew | apply cur_drewN)); done) | omega | (simp only [gz, Value.cells, oneC]; first | done | omega) | ((simp only [List.mem_cons, List.not_mem_nil, or_false, gz]); omega) | rfl)) only [↓gsd, gs, ev, Nat.reduceAdd, Nat.reduceEqDiff, oneC, Value.cells, Option.isNone, hh, hbo]; exact hclr
      · have d5 : decide ((g.most : Int) ≤ ((entV (Value.int .i64) g.ws).length : Int)) = false := decide_eq_false (by rw [entV_len]; omega)
        have hp : g.put n v = (([], false), ⟨g.at_, g.most, g.ws ++ [(n, v)]⟩) := by unfold GS.put; rw [if_neg hno, if_neg c4, if_neg c5]
        rw [hp] at hK
        have hupd := (map_updateX Try.runUnderlying128 kOK128 h.map n ((Value.int .i64) v)).2
        rw [hbo, entV_new _ _ _ _ hx] at hupd
        simp (maxSteps := 4000000) (disch := (first | assumption | exact List.not_mem_nil | ((repeat (first | assumption | apply cur_alloc | apply cur_setB | apply cur_drew | apply cur_drewN)); done) | omega | (simp only [gz, Value.cells, oneC]; first | done | omega) | ((simp only [List.mem_cons, List.not_mem_nil, or_false, gz]); omega) | rfl)) only [↓gsd, gs, ev, Nat.reduceAdd, Nat.reduceEqDiff, oneC, Value.cells, Option.isNone, gt, ↓hk31, hh, d1, d2, hbo, hmv, hx', d4]
        refine draw_intro [] ?_
        simp (maxSteps := 4000000) (disch := (first | assumption | exact List.not_mem_nil | ((repeat (first | assumption | apply cur_alloc | apply cur_setB | apply cur_drew | apply cur_drewN)); done) | omega | (simp only [gz, Value.cells, oneC]; first | done | omega) | ((simp only [List.mem_cons, List.not_mem_nil, or_false, gz]); omega) | rfl)) only [↓gsd, gs, ev, Nat.reduceAdd, Nat.reduceEqDiff, oneC, Value.cells, Option.isNone, gt, ↓hk31, hh, hbo, hmv, d5]
        refine hK _ _ (hnil _) (hnf w) (by (repeat (first | exact Fr.refl _ _ | assumption | with_reducible apply Fr.alloc | with_reducible apply Fr.drew | with_reducible refine Fr.setB ?_ _ _ (.inr (by first | omega | (simp only [gz]; omega))) | with_reducible refine Fr.setB ?_ _ _ (.inl (by first | assumption | simp)) | with_reducible refine Fr.trans' ?_ (by assumption)))) ⟨?_, ?_⟩
        · simp (maxSteps := 4000000) (disch := (first | assumption | exact List.not_mem_nil | ((repeat (first | assumption | apply cur_alloc | apply cur_setB | apply cur_drew | apply cur_drewN)); done) | omega | (simp only [gz, Value.cells, oneC]; first | done | omega) | ((simp only [List.mem_cons, List.not_mem_nil, or_false, gz]); omega) | rfl)) only [↓gsd, gs, ev, Nat.reduceAdd, Nat.reduceEqDiff, oneC, Value.cells, Option.isNone, hh]
        · simp (maxSteps := 4000000) (disch := (first | assumption | exact List.not_mem_nil | ((repeat (first | assumption | apply cur_alloc | apply cur_setB | apply cur_drew | apply cur_drewN)); done) | omega | (simp only [gz, Value.cells, oneC]; first | done | omega) | ((simp only [List.mem_cons, List.not_mem_nil, or_false, gz]); omega) | rfl)) only [↓gsd, gs, ev, Nat.reduceAdd, Nat.reduceEqDiff, oneC, Value.cells, Option.isNone, hh, hbo]; exact hupd
theorem waitsI {w : World} {gb gm : Nat} {g : GS Int} {K : Value → World → Prop} (h : GapAtI w gb gm g) (hwf : g.WF)
    (hK : ∀ vo w', Own 1 2 w' vo g.ws.length ((sortI (g.ws.map (·.1))).map (Value.int .i64)) → Fr [] w w' → (∀ x, vo.ownBlock = some x → w.heap.size ≤ x) → K vo w') :
    CallsN Try.prog 32 [.pointer (some ⟨gb, 0, none⟩)] w K := by
  have cw := cur w
  have hh := h.head
  refine call32 ?_
  simp (maxSteps := 4000000) (disch := (first | assumption | exact List.not_mem_nil | ((repeat (first | assumption | apply cur_alloc | apply cur_setB | apply cur_drew | apply cur_drewN)); done) | omega | (simp only [gz, Value.cells, oneC]; first | done | omega) | ((simp only [List.mem_cons, List.not_mem_nil, or_false, gz]); omega) | rfl)) only [↓gsd, gs, ev, Nat.reduceAdd, Nat.reduceEqDiff, oneC, Value.cells, Option.isNone, gt, ↓hk32, hh]
  refine keysI ?_
  refine sortedI h.map ?_ (by rw [entV_len]; have := hwf.len; have := hwf.m; omega) fun v w' hown hf hfr => ?_
  · intro p hp
    obtain ⟨q, hq, rfl⟩ := List.mem_map.1 hp
    have := hwf.rng q hq
    have := hwf.a0
    simp only; omega
  · rw [entV_keys, entV_len] at hown
    exact hK v w' hown hf hfr
theorem atI {w : World} {gb gm : Nat} {g : GS Int} {K : Value → World → Prop} (h : GapAtI w gb gm g) (hK : K (.int .i64 g.at_) w) : CallsN Try.prog 33 [.pointer (some ⟨gb, 0, none⟩)] w K := by
  have cw := cur w
  have hh := h.head
  refine call33 ?_
  simp (maxSteps := 4000000) (disch := (first | assumption | exact List.not_mem_nil | ((repeat (first | assumption | apply cur_alloc | apply cur_setB | apply cur_drew | apply cur_drewN)); done) | omega | (simp only [gz, Value.cells, oneC]; first | done | omega) | ((simp only [List.mem_cons, List.not_mem_nil, or_false, gz]); omega) | rfl)) only [↓gsd, gs, ev, Nat.reduceAdd, Nat.reduceEqDiff, oneC, Value.cells, Option.isNone, gt, ↓hk33, hh]
  exact hK
theorem span_of {a b : Int} {w : World} {K : Value → World → Prop} (hab : a < b) (hK : ∀ w', Fr [] w w' → K (.agg ([.int .i64 a, .int .i64 b] : List Value).toArray) w') : CallsN Try.prog 74 [.int .i64 a, .int .i64 b] w K := by
  have cw := cur w
  have d : decide (b ≤ a) = false := decide_eq_false (by omega)
  refine call74 ?_
  simp (maxSteps := 4000000) (disch := (first | assumption | exact List.not_mem_nil | ((repeat (first | assumption | apply cur_alloc | apply cur_setB | apply cur_drew | apply cur_drewN)); done) | omega | (simp only [gz, Value.cells, oneC]; first | done | omega) | ((simp only [List.mem_cons, List.not_mem_nil, or_false, gz]); omega) | rfl)) only [↓gsd, gs, ev, Nat.reduceAdd, Nat.reduceEqDiff, oneC, Value.cells, Option.isNone, gt, ↓hk74, d]
  refine hK _ ?_
  (repeat (first | exact Fr.refl _ _ | assumption | with_reducible apply Fr.alloc | with_reducible apply Fr.drew | with_reducible refine Fr.setB ?_ _ _ (.inr (by first | omega | (simp only [gz]; omega))) | with_reducible refine Fr.setB ?_ _ _ (.inl (by first | assumption | simp)) | with_reducible refine Fr.trans' ?_ (by assumption)))

set_option maxHeartbeats 1000000 in
theorem lacksI {w : World} {gb gm : Nat} {g : GS Int} {K : Value → World → Prop} (h : GapAtI w gb gm g) (hwf : g.WF)
    (hK : ∀ w', Fr [] w w' → K (.agg ([.int .i64 g.lacks.1, .int .i64 g.lacks.2] : List Value).toArray) w') : CallsN Try.prog 43 [.pointer (some ⟨gb, 0, none⟩)] w K := by
  have cw := cur w
  have ha0 := hwf.a0
  have ha1 := hwf.a1
  refine call43 ?_
  simp (maxSteps := 4000000) (disch := (first | assumption | exact List.not_mem_nil | ((repeat (first | assumption | apply cur_alloc | apply cur_setB | apply cur_drew | apply cur_drewN)); done) | omega | (simp only [gz, Value.cells, oneC]; first | done | omega) | ((simp only [List.mem_cons, List.not_mem_nil, or_false, gz]); omega) | rfl)) only [↓gsd, gs, ev, Nat.reduceAdd, Nat.reduceEqDiff, oneC, Value.cells, Option.isNone, gt, ↓hk43]
  refine waitsI (h.frN ((Fr.refl _ _).alloc _)) hwf fun vo w1 hown hf1 hfr => ?_
  have cw1 := cur w1
  have hz1 := hf1.size
  rw [size_alloc] at hz1
  have g2 := hf1.getN (get_alloc_new w (.cells ([.int .i64 0, .int .i64 0] : List Value).toArray 86))
  have hlt2 := lt_of_get _ _ g2
  obtain ⟨va, vc, hv⟩ := hown.sl.form
  have h1 := (h.frN ((Fr.refl _ _).alloc (.cells ([.int .i64 0, .int .i64 0] : List Value).toArray 86))).frN hf1
  have hh := h1.head
  by_cases h0 : g.ws.length = 0
  · have d : decide ((g.ws.length : Int) = 0) = true := decide_eq_true (by omega)
    have e : g.lacks = (0, 0) := by unfold GS.lacks; rw [if_pos h0]
    rw [e] at hK
    simp (maxSteps := 4000000) (disch := (first | assumption | exact List.not_mem_nil | ((repeat (first | assumption | apply cur_alloc | apply cur_setB | apply cur_drew | apply cur_drewN)); done) | omega | (simp only [gz, Value.cells, oneC]; first | done | omega) | ((simp only [List.mem_cons, List.not_mem_nil, or_false, gz]); omega) | rfl)) only [↓gsd, gs, ev, Nat.reduceAdd, Nat.reduceEqDiff, oneC, Value.cells, Option.isNone, gt, ↓hk43, hv, d, g2]
    exact hK _ (Fr.setB (((Fr.refl [] w).alloc _).trans' hf1) _ _ (.inr (Nat.le_refl _)))
  · have d : decide ((g.ws.length : Int) = 0) = false := decide_eq_false (by omega)
    obtain ⟨y, hy⟩ : ∃ y, (sortI (g.ws.map (·.1)))[0]? = some y := by
      have : (sortI (g.ws.map (·.1))).length = g.ws.length := by unfold sortI; simp
      exact ⟨_, List.getElem?_eq_getElem (by omega)⟩
    have e : g.lacks = (g.at_ + 1, y) := by unfold GS.lacks; rw [if_neg h0, List.head?_eq_getElem?, hy]; rfl
    rw [e] at hK
    have hym : y ∈ g.ws.map (·.1) := (List.mergeSort_perm _ _).mem_iff.1 (List.mem_of_getElem? hy)
    obtain ⟨q, hq, hqy⟩ := List.mem_map.1 hym
    have hr := hwf.rng q hq
    have hsl : SlOf 1 (fun v : Int => [Value.int .i64 v]) w1 vo (sortI (g.ws.map (·.1))) := sl_ints hown
    obtain ⟨bb, off, cap, ob, hvv, hob, hbl, hrw, hcell⟩ := hsl.read (fun _ => rfl) 0 y hy
    have hc0 := fun orig K => hcell 0 (.int .i64 y) orig K rfl
    simp only [Nat.zero_mul, Nat.add_zero] at hc0
    have hl : (sortI (g.ws.map (·.1))).length = g.ws.length := by unfold sortI; simp
    rw [hl] at hvv
    have i0 : (0 : Int) ≤ (0 : Int) := by omega
    have i1 : (0 : Int) < (g.ws.length : Int) := by omega
    simp (maxSteps := 4000000) (disch := (first | assumption | exact List.not_mem_nil | ((repeat (first | assumption | apply cur_alloc | apply cur_setB | apply cur_drew | apply cur_drewN)); done) | omega | (simp only [gz, Value.cells, oneC]; first | done | omega) | ((simp only [List.mem_cons, List.not_mem_nil, or_false, gz]); omega) | rfl)) only [↓gsd, gs, ev, Nat.reduceAdd, Nat.reduceEqDiff, oneC, Value.cells, Option.isNone, gt, ↓hk43, hvv, d]
    refine draw_intro [] ?_
    simp (maxSteps := 4000000) (disch := (first | assumption | exact List.not_mem_nil | ((repeat (first | assumption | apply cur_alloc | apply cur_setB | apply cur_drew | apply cur_drewN)); done) | omega | (simp only [gz, Value.cells, oneC]; first | done | omega) | ((simp only [List.mem_cons, List.not_mem_nil, or_false, gz]); omega) | rfl)) only [↓gsd, gs, ev, Nat.reduceAdd, Nat.reduceEqDiff, oneC, Value.cells, Option.isNone, gt, ↓hk43, hvv, hh, i0, i1, Int.toNat_zero, Nat.zero_mul, Nat.add_zero, hob, hc0]
    refine span_of (by omega) fun w3 hf3 => ?_
    have cw3 := cur w3
    have hz3 := hf3.size
    rw [size_drew] at hz3
    have g3 := hf3.getN ((Fr.refl [] w1).drew.getN g2)
    simp (maxSteps := 4000000) (disch := (first | assumption | exact List.not_mem_nil | ((repeat (first | assumption | apply cur_alloc | apply cur_setB | apply cur_drew | apply cur_drewN)); done) | omega | (simp only [gz, Value.cells, oneC]; first | done | omega) | ((simp only [List.mem_cons, List.not_mem_nil, or_false, gz]); omega) | rfl)) only [↓gsd, gs, ev, Nat.reduceAdd, Nat.reduceEqDiff, oneC, Value.cells, Option.isNone, gt, ↓hk43, g3]
    exact ⟨hf3, hK _ (Fr.setB ((((Fr.refl [] w).alloc _).trans' hf1).trans' (Fr.trans' (Fr.refl _ _).drew hf3)) _ _ (.inr (Nat.le_refl _)))⟩
end Go.Proofs.Ytenokheiindfkaa
