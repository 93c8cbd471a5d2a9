/- The walks of a gap's functions, of records. -/
import Derived.Test.YtomlgkecckffeaaGreatG1
import Derived.Test.YtomlgkecckffeaaGreatVC
set_option linter.unusedVariables false
set_option linter.unusedSimpArgs false
set_option maxRecDepth 10000
namespace Go.Proofs.YtomlgkecckffeaaGreat
open Go.VW
abbrev GapAtR := GapAt (α := KRec) 179 krV
theorem clearR {w : World} {gb most : Nat} {a0 a : Int} {mv : Value} {K : Value → World → Prop} (h : w.heap[gb]? = some (.cells ([.int .i64 a0, .int .i64 most, mv] : List Value).toArray 179 (0, 0)))
  (hK : ∀ gm w', Fr [gb] w w' → w.heap.size ≤ gm → GapAtR w' gb gm ⟨clamp a, most, []⟩ → K (.tuple #[]) w') : CallsN Tryz.prog 84 [.pointer (some ⟨gb, 0, none⟩), .int .i64 a] w K := by
 have cw := cur w
 have hlt := lt_of_get _ _ h
 refine call84 ?_
 simp (maxSteps:=9^7)(disch:=first|assumption|(simp only[dz];first|done|assumption|omega)|omega|apply_rules[Fr.refl,Fr.alloc,Fr.drew]|rfl) only [↓gd,gp,Nat.reduceAdd,Nat.reduceEqDiff, ↓hk84, h]
 refine hK w.heap.size _ fr_ (Nat.le_refl _) ⟨?_, ?_⟩
 ·simp (maxSteps:=9^7)(disch:=first|assumption|(simp only[dz];first|done|assumption|omega)|omega|apply_rules[Fr.refl,Fr.alloc,Fr.drew]|rfl) only [↓gsd,gs,gv,Nat.reduceAdd,Nat.reduceEqDiff, h]; rfl
 ·simp (maxSteps:=9^7)(disch:=first|assumption|(simp only[dz];first|done|assumption|omega)|omega|apply_rules[Fr.refl,Fr.alloc,Fr.drew]|rfl) only [↓gsd,gs,gv,Nat.reduceAdd,Nat.reduceEqDiff, h]; exact MapAt.empty
theorem newR {a m : Int} {w : World} {K : Value → World → Prop} (hK : ∀ gb gm w', Fr [] w w' → w.heap.size ≤ gb → w.heap.size ≤ gm → GapAtR w' gb gm (GS.new a m) → K (.pointer (some ⟨gb, 0, none⟩)) w') :
  CallsN Tryz.prog 108 [.int .i64 a, .int .i64 m] w K := by
 have cw := cur w
 refine call108 ?_
 simp (maxSteps:=9^7)(disch:=first|assumption|(simp only[dz];first|done|assumption|omega)|omega|apply_rules[Fr.refl,Fr.alloc,Fr.drew]|rfl) only [↓gd,gp,Nat.reduceAdd,Nat.reduceEqDiff, ↓hk108]
 have e : ((((min (max m 0) 256).toNat : Nat)) : Int) = min (max m 0) 256 := by omega
 rw [← e]
 refine clearR (most := (min (max m 0) 256).toNat) (get_alloc_new _ _) fun gm w' hf hgm hg => ?_
 have cw' := cur w'
 simp (maxSteps:=9^7)(disch:=first|assumption|(simp only[dz];first|done|assumption|omega)|omega|apply_rules[Fr.refl,Fr.alloc,Fr.drew]|rfl) only [↓gd,gp,Nat.reduceAdd,Nat.reduceEqDiff, ↓hk108]
 refine hK w.heap.size gm w' (((Fr.refl [] w).alloc _).trans hf fun x hx => ?_) (Nat.le_refl _) (by rw [size_alloc] at hgm; omega) hg
 simp at hx; exact .inr (by omega)

set_option maxHeartbeats 4000000 in
theorem outR {w : World} {gb gm : Nat} {g : GS KRec} {v : KRec} {K : Value → World → Prop} (h : GapAtR w gb gm g) (ha0 : 0 ≤ g.at_) (ha1 : g.at_ + 1 ≤ 1099511627776) (hr : ∀ p ∈ g.ws, p.1 ≤ 1099511627776) (hl : g.ws.length ≤ 256)
  (hK : ∀ vo w', Own 2 38 w' vo (v :: (drain g.ws.length (g.at_ + 1) g.ws).1).length (cellsOf encKR (v :: (drain g.ws.length (g.at_ + 1) g.ws).1)) → (∀ x, vo.ownBlock = some x → w.heap.size ≤ x) → Fr [gb, gm] w w' →
   GapAtR w' gb gm ⟨(drain g.ws.length (g.at_ + 1) g.ws).2.1, g.most, (drain g.ws.length (g.at_ + 1) g.ws).2.2⟩ → K vo w') :
  CallsN Tryz.prog 134 [.pointer (some ⟨gb, 0, none⟩), krV v] w K := by
 have cw := cur w
 obtain ⟨hgb, hgm, hne⟩ := h.lt
 have hh := h.head
 refine call134 ?_
 simp (maxSteps:=9^7)(disch:=first|assumption|(simp only[dz];first|done|assumption|omega)|omega|apply_rules[Fr.refl,Fr.alloc,Fr.drew]|rfl) only [↓gd,gp,Nat.reduceAdd,Nat.reduceEqDiff, ↓hk134, hh]
 obtain ⟨tot, htot⟩ : ∃ t, t = drain g.ws.length (g.at_ + 1) g.ws := ⟨_, rfl⟩
 rw [← htot] at hK
 refine loop_intro (fun e w' => ∃ (f : Nat) (a : Int) (ws : List (Int × KRec)) (pre : List KRec) (vo : Value), e 0 = .pointer (some ⟨gb, 0, none⟩) ∧ e 5 = vo ∧ Own 2 38 w' vo pre.length (cellsOf encKR pre) ∧ (∀ x, vo.ownBlock = some x → w.heap.size ≤ x) ∧
   GapAtR w' gb gm ⟨a, g.most, ws⟩ ∧ ws.length ≤ f ∧ v :: tot.1 = pre ++ (drain f a ws).1 ∧ tot.2 = (drain f a ws).2 ∧ 0 ≤ a ∧ a ≤ 1099511627776 ∧ (∀ p ∈ ws, p.1 ≤ 1099511627776) ∧ pre.length + ws.length ≤ 257 ∧ Fr [gb, gm] w w')
  (fun e w' => mapN w'.heap[gm]?) ?_ ?_
 ·refine ⟨g.ws.length, g.at_ + 1, g.ws, [v], .slice (some ⟨(w.heap.size + 1), 0, none⟩) 1 1, ?_⟩
  simp (maxSteps:=9^7)(disch:=first|assumption|(simp only[dz];first|done|assumption|omega)|omega|apply_rules[Fr.refl,Fr.alloc,Fr.drew]|rfl) only [↓gsd,gs,gv,Nat.reduceAdd,Nat.reduceEqDiff, hh]
  refine ⟨Own.mk (n := 1) (by simp (maxSteps:=9^7)(disch:=first|assumption|(simp only[dz];first|done|assumption|omega)|omega|apply_rules[Fr.refl,Fr.alloc,Fr.drew]|rfl) only [↓gsd,gs,gv,Nat.reduceAdd,Nat.reduceEqDiff, hh]; rfl) rfl (by decide), fun x hx => ?_, ⟨by simp (maxSteps:=9^7)(disch:=first|assumption|(simp only[dz];first|done|assumption|omega)|omega|apply_rules[Fr.refl,Fr.alloc,Fr.drew]|rfl) only [↓gsd,gs,gv,Nat.reduceAdd,Nat.reduceEqDiff, hh], ?_⟩, Nat.le_refl _, ?_, ?_, ?_, ha1, hr, ?_, ?_⟩
  ·simp only [Value.ownBlock, Option.some.injEq] at hx; omega
  ·have := h.map
   simp (maxSteps:=9^7)(disch:=first|assumption|(simp only[dz];first|done|assumption|omega)|omega|apply_rules[Fr.refl,Fr.alloc,Fr.drew]|rfl) only [↓gsd,gs,gv,Nat.reduceAdd,Nat.reduceEqDiff, hh]; exact this
  ·rw [htot]
  ·rw [htot]
  ·omega
  ·show 1 + g.ws.length ≤ 257
   omega
  ·exact fr_
 ·rintro e w1 k ⟨f, a, ws, pre, vo, e0, e5, hown, hfresh, hg, hlf, ht1, ht2, ha0, ha1, hr, hpl, hf⟩ hk
  have cw1 := cur w1
  have hz1 := hf.size
  have hh1 := hg.head
  have hlt1 := hg.lt
  obtain ⟨ents, clock, hbo, _⟩ := id hg.map.ex
  have hm := hg.map
  rw [hbo] at hm
  have hmv := fun orig K => mapV_at inj_int hm orig K
  have hsz := MapAt.sizeN hm
  rw [entV_len] at hsz
  cases hx : aget ws (a + 1) with
  | none =>
    have hx' : aget (entV krV ws) (a + 1) = none := by rw [entV_get, hx]; rfl
    rw [drain_none hlf hx] at ht1 ht2
    simp only [List.append_nil] at ht1
    simp (maxSteps:=9^7)(disch:=first|assumption|(simp only[dz];first|done|assumption|omega)|omega|apply_rules[Fr.refl,Fr.alloc,Fr.drew]|rfl) only [↓gd,gp,Nat.reduceAdd,Nat.reduceEqDiff, ↓hk134, e0, e5, hh1, hbo, hmv, hx']
    rw [ht1, ht2] at hK
    exact hK vo _ (hown.fr (M := []) (w := w1) fr_ (by simp)) hfresh (hf.trans' fr_) (hg.frN fr_)
  | some x =>
    obtain ⟨f', hf', hd1, hd2, hd3⟩ := drain_some hlf hx
    have hx' : aget (entV krV ws) (a + 1) = some (krV x) := by rw [entV_get, hx]; rfl
    have hxr := hr _ (aget_mem _ _ hx)
    simp only at hxr
    simp (maxSteps:=9^7)(disch:=first|assumption|(simp only[dz];first|done|assumption|omega)|omega|apply_rules[Fr.refl,Fr.alloc,Fr.drew]|rfl) only [↓gd,gp,Nat.reduceAdd,Nat.reduceEqDiff, ↓hk134, e0, e5, hh1, hbo, hmv, hx']
    generalize hW : World.alloc (World.alloc w1.drew _) _ = w3
    have hf3 : Fr [] w1 w3 := by rw [← hW]; exact fr_
    have hz3 : w1.heap.size < w3.heap.size := by rw [← hW]; simp only [gz]; omega
    have hsl0 : w3.heap[w1.heap.size + 1]? = some (.cells (encKR x).toArray 38 (0, 0)) := by rw [← hW]; simp (maxSteps:=9^7)(disch:=first|assumption|(simp only[dz];first|done|assumption|omega)|omega|apply_rules[Fr.refl,Fr.alloc,Fr.drew]|rfl) only [↓gsd,gs,gv,Nat.reduceAdd,Nat.reduceEqDiff] <;> rfl
    have hsl : Sl 2 w3 (.slice (some ⟨w1.heap.size + 1, 0, none⟩) 1 1) 1 (encKR x) := ⟨rfl, .inr ⟨_, 0, 1, _, 38, (0, 0), rfl, hsl0, rfl⟩⟩
    clear hW
    obtain ⟨v4, w4, hr4, hown4, hf4, hbk⟩ := ap95 (ty := 95) (hown.fr (M := []) hf3 (by simp)) hsl rfl (by omega)
    have cw4 := cur w4
    have hz4 := hf4.size
    have hnb : ∀ y, y < w.heap.size → y ∉ blkL vo := fun y hy hm => by
     unfold blkL at hm
     split at hm
     ·rename_i g' hg'
      have := hfresh g' hg'
      simp at hm; omega
     ·simp at hm
    have hg4 := (hg.frN hf3).fr hf4 (hnb gb hgb) (hnb gm hgm)
    have hh4 := hg4.head
    have hm4 := hg4.map
    have hlt4 := hg4.lt
    obtain ⟨ents4, clock4, hbo4, _⟩ := id hg4.map.ex
    rw [hbo4] at hm4
    have hmv4 := fun orig K => mapV_at inj_int hm4 orig K
    have hdel := (map_delete (kt' := 2) Tryz.runUnderlying177 kOK177 0 hg4.map (a + 1)).2
    rw [hbo4] at hdel
    simp only [entV_del] at hdel
    simp (maxSteps:=9^7)(disch:=first|assumption|(simp only[dz];first|done|assumption|omega)|omega|apply_rules[Fr.refl,Fr.alloc,Fr.drew]|rfl) only [↓gd,gp,Nat.reduceAdd,Nat.reduceEqDiff, ↓hk134, e0, e5, hr4, hh4, hbo4, hmv4]
    refine hk _ _ ⟨f', a + 1, adel ws (a + 1), pre ++ [x], v4, ?_⟩ ?_
    ·simp (maxSteps:=9^7)(disch:=first|assumption|(simp only[dz];first|done|assumption|omega)|omega|apply_rules[Fr.refl,Fr.alloc,Fr.drew]|rfl) only [↓gsd,gs,gv,Nat.reduceAdd,Nat.reduceEqDiff, e0, e5, hh4]
     refine ⟨?_, ?_, ⟨?_, ?_⟩, hd2, ?_, ?_, ?_, ?_, ?_, ?_, ?_⟩
     ·rw [List.length_append, cellsOf_append, cellsOf_one]
      refine (hown4.fr (M := [gb, gm]) fr_ ?_)
      intro y hy e
      rcases hbk with h1 | ⟨b', h1, h2⟩
      ·have := hfresh y (h1 ▸ e)
       simp at hy; omega
      ·rw [h1] at e; cases e
       simp at hy; omega
     ·intro y hy
      rcases hbk with h1 | ⟨b', h1, h2⟩
      ·exact hfresh y (h1 ▸ hy)
      ·rw [h1] at hy; cases hy; omega
     ·simp (maxSteps:=9^7)(disch:=first|assumption|(simp only[dz];first|done|assumption|omega)|omega|apply_rules[Fr.refl,Fr.alloc,Fr.drew]|rfl) only [↓gsd,gs,gv,Nat.reduceAdd,Nat.reduceEqDiff, hh4]
     ·simp (maxSteps:=9^7)(disch:=first|assumption|(simp only[dz];first|done|assumption|omega)|omega|apply_rules[Fr.refl,Fr.alloc,Fr.drew]|rfl) only [↓gsd,gs,gv,Nat.reduceAdd,Nat.reduceEqDiff, hh4]; exact hdel
     ·rw [ht1, hd3]; simp
     ·rw [ht2, hd3]
     ·omega
     ·omega
     ·intro p hp; exact hr p (adel_mem _ _ hp)
     ·simp; omega
     ·exact (((hf.trans' hf3).trans hf4 fun y hy => .inr (Nat.le_of_not_lt fun hlt => hnb y hlt hy)).trans (M' := [gb, gm]) fr_ fun y hy => .inl hy)
    ·have := MapAt.sizeN hdel
     rw [entV_len] at this
     simp (maxSteps:=9^7)(disch:=first|assumption|(simp only[dz];first|done|assumption|omega)|omega|apply_rules[Fr.refl,Fr.alloc,Fr.drew]|rfl) only [↓gsd,gs,gv,Nat.reduceAdd,Nat.reduceEqDiff, hbo4]
     rw [this, hbo, hsz]
     show (adel ws (a + 1)).length < ws.length
     omega

set_option maxHeartbeats 4000000 in
theorem putR {w : World} {gb gm : Nat} {g : GS KRec} {n : Int} {v : KRec} {K : Value → World → Prop} (h : GapAtR w gb gm g) (hwf : g.WF)
  (hK : ∀ vo w', Own 2 38 w' vo (g.put n v).1.1.length (cellsOf encKR (g.put n v).1.1) → (∀ x, vo.ownBlock = some x → w.heap.size ≤ x) → Fr [gb, gm] w w' → GapAtR w' gb gm (g.put n v).2 → K (.tuple ([vo, .bool (g.put n v).1.2] : List Value).toArray) w') :
  CallsN Tryz.prog 63 [.pointer (some ⟨gb, 0, none⟩), .int .i64 n, krV v] w K := by
 have cw := cur w
 obtain ⟨hgb, hgm, hne⟩ := h.lt
 have hh := h.head
 have ha0 := hwf.a0
 have ha1 := hwf.a1
 have hnil : ∀ w' : World, Own 2 38 w' (.slice none 0 0) ([] : List KRec).length (cellsOf encKR []) := fun w' => Own.nil
 have hnf : ∀ (w' : World) x, (Value.slice none 0 0).ownBlock = some x → w.heap.size ≤ x := fun w' x hx => by simp [Value.ownBlock] at hx
 obtain ⟨ents, clock, hbo, _⟩ := id h.map.ex
 have hm := h.map
 rw [hbo] at hm
 have hmv := fun orig K => mapV_at inj_int hm orig K
 refine call63 ?_
 by_cases c1 : n ≤ g.at_
 ·have d1 : decide (n ≤ g.at_) = true := decide_eq_true c1
  have hp : g.put n v = (([], false), g) := by unfold GS.put; rw [if_pos (.inl c1)]
  rw [hp] at hK
  simp (maxSteps:=9^7)(disch:=first|assumption|(simp only[dz];first|done|assumption|omega)|omega|apply_rules[Fr.refl,Fr.alloc,Fr.drew]|rfl) only [↓gd,gp,Nat.reduceAdd,Nat.reduceEqDiff, ↓hk63, hh, d1]
  exact hK _ _ (hnil _) (hnf w) fr_ (h.frN fr_)
 have d1 : decide (n ≤ g.at_) = false := decide_eq_false c1
 by_cases c2 : 1099511627776 < n
 ·have d2 : decide (1099511627776 < n) = true := decide_eq_true c2
  have hp : g.put n v = (([], false), g) := by unfold GS.put; rw [if_pos (.inr (.inl c2))]
  rw [hp] at hK
  simp (maxSteps:=9^7)(disch:=first|assumption|(simp only[dz];first|done|assumption|omega)|omega|apply_rules[Fr.refl,Fr.alloc,Fr.drew]|rfl) only [↓gd,gp,Nat.reduceAdd,Nat.reduceEqDiff, ↓hk63, hh, d1, d2]
  exact hK _ _ (hnil _) (hnf w) fr_ (h.frN fr_)
 have d2 : decide (1099511627776 < n) = false := decide_eq_false c2
 cases hx : aget g.ws n with
 | some x =>
   have hx' : aget (entV krV g.ws) n = some (krV x) := by rw [entV_get, hx]; rfl
   have hp : g.put n v = (([], false), g) := by unfold GS.put; rw [if_pos (.inr (.inr (by rw [hx]; rfl)))]
   rw [hp] at hK
   simp (maxSteps:=9^7)(disch:=first|assumption|(simp only[dz];first|done|assumption|omega)|omega|apply_rules[Fr.refl,Fr.alloc,Fr.drew]|rfl) only [↓gd,gp,Nat.reduceAdd,Nat.reduceEqDiff, ↓hk63, hh, d1, d2, hbo, hmv, hx']
   exact hK _ _ (hnil _) (hnf w) fr_ (h.frN fr_)
 | none =>
   have hx' : aget (entV krV g.ws) n = none := by rw [entV_get, hx]; rfl
   have hno : ¬ (n ≤ g.at_ ∨ 1099511627776 < n ∨ (aget g.ws n).isSome) := by
    rw [hx]; simp; exact ⟨by omega, by omega⟩
   by_cases c4 : n = g.at_ + 1
   ·have d4 : decide (n = g.at_ + 1) = true := decide_eq_true c4
    have hp : g.put n v = ((v :: (drain g.ws.length n g.ws).1, false), ⟨(drain g.ws.length n g.ws).2.1, g.most, (drain g.ws.length n g.ws).2.2⟩) := by unfold GS.put; rw [if_neg hno, if_pos c4]
    rw [hp] at hK
    simp (maxSteps:=9^7)(disch:=first|assumption|(simp only[dz];first|done|assumption|omega)|omega|apply_rules[Fr.refl,Fr.alloc,Fr.drew]|rfl) only [↓gd,gp,Nat.reduceAdd,Nat.reduceEqDiff, ↓hk63, hh, d1, d2, hbo, hmv, hx', d4]
    refine outR (h.frN (w := w) fr_) ha0 (by omega) (fun p hp => (hwf.rng p hp).2) (by have := hwf.len; have := hwf.m; omega) fun vo w' hown hfr hf hg => ?_
    rw [← c4] at hown hg
    exact hK vo w' hown (fun x hx => Nat.le_trans (by first | exact Nat.le_refl _ | (simp only [gz]; omega)) (hfr x hx)) (Fr.trans (a := w) fr_ hf fun x hx => .inl hx) hg
   ·have d4 : decide (n = g.at_ + 1) = false := decide_eq_false c4
    by_cases c5 : g.most ≤ g.ws.length
    ·have d5 : decide ((g.most : Int) ≤ ((entV krV g.ws).length : Int)) = true := decide_eq_true (by rw [entV_len]; omega)
     have hp : g.put n v = (([], true), ⟨g.at_, g.most, []⟩) := by unfold GS.put; rw [if_neg hno, if_neg c4, if_pos c5]
     rw [hp] at hK
     have hclr := (map_clear (kv := Value.int .i64) Tryz.runUnderlying177 0 h.map).2
     rw [hbo] at hclr
     simp (maxSteps:=9^7)(disch:=first|assumption|(simp only[dz];first|done|assumption|omega)|omega|apply_rules[Fr.refl,Fr.alloc,Fr.drew]|rfl) only [↓gd,gp,Nat.reduceAdd,Nat.reduceEqDiff, ↓hk63, hh, d1, d2, hbo, hmv, hx', d4, d5]
     refine hK _ _ (hnil _) (hnf w) fr_ ⟨?_, ?_⟩
     ·simp (maxSteps:=9^7)(disch:=first|assumption|(simp only[dz];first|done|assumption|omega)|omega|apply_rules[Fr.refl,Fr.alloc,Fr.drew]|rfl) only [↓gsd,gs,gv,Nat.reduceAdd,Nat.reduceEqDiff, hh]
     ·simp (maxSteps:=9^7)(disch:=first|assumption|(simp only[dz];first|done|assumption|omega)|omega|apply_rules[Fr.refl,Fr.alloc,Fr.drew]|rfl) only [↓gsd,gs,gv,Nat.reduceAdd,Nat.reduceEqDiff, hh, hbo]; exact hclr
    ·have d5 : decide ((g.most : Int) ≤ ((entV krV g.ws).length : Int)) = false := decide_eq_false (by rw [entV_len]; omega)
     have hp : g.put n v = (([], false), ⟨g.at_, g.most, g.ws ++ [(n, v)]⟩) := by unfold GS.put; rw [if_neg hno, if_neg c4, if_neg c5]
     rw [hp] at hK
     have hupd := (map_updateX Tryz.runUnderlying177 kOK177 h.map n (krV v)).2
     rw [hbo, entV_new _ _ _ _ hx] at hupd
     simp (maxSteps:=9^7)(disch:=first|assumption|(simp only[dz];first|done|assumption|omega)|omega|apply_rules[Fr.refl,Fr.alloc,Fr.drew]|rfl) only [↓gd,gp,Nat.reduceAdd,Nat.reduceEqDiff, ↓hk63, hh, d1, d2, hbo, hmv, hx', d4, d5]
     refine hK _ _ (hnil _) (hnf w) fr_ ⟨?_, ?_⟩
     ·simp (maxSteps:=9^7)(disch:=first|assumption|(simp only[dz];first|done|assumption|omega)|omega|apply_rules[Fr.refl,Fr.alloc,Fr.drew]|rfl) only [↓gsd,gs,gv,Nat.reduceAdd,Nat.reduceEqDiff, hh]
     ·simp (maxSteps:=9^7)(disch:=first|assumption|(simp only[dz];first|done|assumption|omega)|omega|apply_rules[Fr.refl,Fr.alloc,Fr.drew]|rfl) only [↓gsd,gs,gv,Nat.reduceAdd,Nat.reduceEqDiff, hh, hbo]; exact hupd
theorem waitsR {w : World} {gb gm : Nat} {g : GS KRec} {K : Value → World → Prop} (h : GapAtR w gb gm g) (hwf : g.WF)
  (hK : ∀ vo w', Own 1 2 w' vo g.ws.length ((sortI (g.ws.map (·.1))).map (Value.int .i64)) → Fr [] w w' → (∀ x, vo.ownBlock = some x → w.heap.size ≤ x) → K vo w') :
  CallsN Tryz.prog 61 [.pointer (some ⟨gb, 0, none⟩)] w K := by
 have cw := cur w
 have hh := h.head
 refine call61 ?_
 simp (maxSteps:=9^7)(disch:=first|assumption|(simp only[dz];first|done|assumption|omega)|omega|apply_rules[Fr.refl,Fr.alloc,Fr.drew]|rfl) only [↓gd,gp,Nat.reduceAdd,Nat.reduceEqDiff, ↓hk61, hh]
 refine keysR ?_
 refine sortedR h.map ?_ (by rw [entV_len]; have := hwf.len; have := hwf.m; omega) fun v w' hown hf hfr => ?_
 ·intro p hp
  obtain ⟨q, hq, rfl⟩ := List.mem_map.1 hp
  have := hwf.rng q hq
  have := hwf.a0
  simp only; omega
 ·rw [entV_keys, entV_len] at hown
  exact hK v w' hown hf hfr
theorem atR {w : World} {gb gm : Nat} {g : GS KRec} {K : Value → World → Prop} (h : GapAtR w gb gm g) (hK : K (.int .i64 g.at_) w) : CallsN Tryz.prog 70 [.pointer (some ⟨gb, 0, none⟩)] w K := by
 have cw := cur w
 have hh := h.head
 refine call70 ?_
 simp (maxSteps:=9^7)(disch:=first|assumption|(simp only[dz];first|done|assumption|omega)|omega|apply_rules[Fr.refl,Fr.alloc,Fr.drew]|rfl) only [↓gd,gp,Nat.reduceAdd,Nat.reduceEqDiff, ↓hk70, hh]
 exact hK

theorem cloneS_spec {v : Value} {xs : List ByteArray} {w : World} {K : Value → World → Prop} (h : SlOf 1 (fun k : ByteArray => [Value.string k]) w v xs) (hlen : xs.length ≤ 4000000000000)
  (hK : ∀ v' w', Own 1 9 w' v' xs.length (cellsOf (fun k : ByteArray => [Value.string k]) xs) → Fr [] w w' → (∀ b, v'.ownBlock = some b → w.heap.size ≤ b) → K v' w') : CallsN Tryz.prog 62 [v] w K := by
 obtain ⟨a, c, hv⟩ := h.form
 have cw := cur w
 refine call62 ?_
 cases a with
 | none =>
   have hx : xs = [] := List.eq_nil_of_length_eq_zero (Sl.none (hv ▸ h))
   simp (maxSteps:=9^7)(disch:=first|assumption|(simp only[dz];first|done|assumption|omega)|omega|apply_rules[Fr.refl,Fr.alloc,Fr.drew]|rfl) only [↓gd,gp,Nat.reduceAdd,Nat.reduceEqDiff, ↓hk62, hv]
   subst hx
   exact hK _ _ Own.nil (Fr.refl _ _) (by simp [Value.ownBlock])
 | some a =>
   obtain ⟨v', w', hr, ho, hf, hb⟩ := ap22 (ty := 22) (Own.new0 w) (h.frN ((Fr.refl [] w).alloc _)) (cells_oneC (fun _ => rfl) xs) (by omega)
   rw [hv] at hr
   simp (maxSteps:=9^7)(disch:=first|assumption|(simp only[dz];first|done|assumption|omega)|omega|apply_rules[Fr.refl,Fr.alloc,Fr.drew]|rfl) only [↓gd,gp,Nat.reduceAdd,Nat.reduceEqDiff, ↓hk62, hv, hr]
   refine hK v' w' (by simpa using ho) (((Fr.refl [] w).alloc _).trans hf fun x hx => ?_) fun b hb' => ?_
   ·simp only [blkL, Value.ownBlock, List.mem_singleton] at hx
    exact .inr (by omega)
   ·rcases hb with hb | ⟨b', hb1, hb2⟩
    ·rw [hb] at hb'
     simp only [Value.ownBlock, Option.some.injEq] at hb'
     omega
    ·rw [hb1] at hb'
     simp only [Option.some.injEq] at hb'
     rw [size_alloc] at hb2
     omega
end Go.Proofs.YtomlgkecckffeaaGreat
