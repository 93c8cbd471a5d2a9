/- The reference's Put. -/
import Derived.Test.YtenokheiindfkaaV2
import Derived.Test.YtenokheiindfkaaG6
import Derived.Test.YtenokheiindfkaaCB
set_option linter.unusedVariables false
set_option linter.unusedSimpArgs false
set_option maxRecDepth 10000
namespace Go.Proofs.Ytenokheiindfkaa
open Go.VW
theorem blk_ne {w : World} {b : Nat} {o : Obj} {v : Value} {n : Nat} {cs : List Value} (h : Own 2 54 w v n cs) (hb : w.heap[b]? = some o) (ho : ∀ c fr, o ≠ .cells c 54 fr) : v.ownBlock ≠ some b := by
  intro e
  rcases h.2 with ⟨rfl, _⟩ | ⟨g, cap, cur, rfl, _, hg, _⟩
  · simp [Value.ownBlock] at e
  · simp [Value.ownBlock] at e
    subst e
    rw [hb] at hg
    cases hg
    exact ho _ _ rfl
theorem ne62 (c : Array Value) (fr : Nat × Nat) : ∀ c' fr', (Obj.cells c 62 fr) ≠ .cells c' 54 fr' := fun c' fr' e => by cases e
def refLen (o : Option Obj) : Nat := match o with
  | some (.cells c _ _) => lenOf (c.toList.getD 2 undef)
  | _ => 0
theorem adel_erase {α : Type} : ∀ (l : List (Int × α)) (k : Int), (aget l k).isSome → adel l k = l.eraseIdx (aidx l k) ∧ aidx l k < l.length ∧ ∃ p, l[aidx l k]? = some p ∧ aget l k = some p.2
  | [], k, h => by simp [aget] at h
  | p :: r, k, h => by
    by_cases hp : p.1 = k
    · simp [adel, aidx, aget, hp]
    · simp only [aget, hp, if_false] at h
      obtain ⟨h1, h2, q, h3, h4⟩ := adel_erase r k h
      refine ⟨by simp [adel, aidx, hp, h1], by simp [aidx, hp]; omega, q, by simp [aidx, hp, h3], by simp [aget, hp, h4]⟩
theorem erase_step {α : Type} (l : List α) (t k : Nat) (x : α) (hk : l[k]? = some x) : (l.take (k + 1)).eraseIdx t = if k = t then (l.take k).eraseIdx t else (l.take k).eraseIdx t ++ [x] := by
  have hkl := (List.getElem?_eq_some_iff.1 hk).1
  rw [List.take_add_one, hk]
  have hlen : (l.take k).length = k := by rw [List.length_take]; omega
  simp only [Option.toList_some]
  by_cases h : k = t
  · subst h
    rw [if_pos rfl, List.eraseIdx_append_of_length_le (by omega), hlen, Nat.sub_self]
    rw [List.eraseIdx_of_length_le (by omega : (l.take k).length ≤ k)]
    simp
  · rw [if_neg h]
    rcases Nat.lt_or_ge t k with h' | h'
    · rw [List.eraseIdx_append_of_lt_length (by omega)]
    · rw [List.eraseIdx_append_of_length_le (by omega), hlen, List.eraseIdx_of_length_le (by omega : (l.take k).length ≤ t)]
      rw [List.eraseIdx_of_length_le (by simp; omega)]
set_option maxHeartbeats 8000000 in
theorem refPut {w : World} {rb : Nat} {vw : Value} {g : GS Rec} {v : Rec} {K : Value → World → Prop} (h : RefAt w rb vw g) (hk : KeyN g) (hwf : g.WF)
    (hK : ∀ vo vw' w', Own 2 54 w' vo (g.put v.n v).1.1.length (cellsOf encR (g.put v.n v).1.1) → RefAt w' rb vw' (g.put v.n v).2 → Fr (rb :: blkL vw) w w' → (∀ x, vw'.ownBlock = some x → vw.ownBlock = some x ∨ w.heap.size ≤ x) → (∀ x, vo.ownBlock = some x → w.heap.size ≤ x) →
      K (.tuple ([vo, .bool (g.put v.n v).1.2] : List Value).toArray) w') :
    CallsN Try.prog 65 [.pointer (some ⟨rb, 0, none⟩), recV v] w K := by
  have cw := cur w
  have hh := h.head
  have hlt := lt_of_get _ _ hh
  have ha0 := hwf.a0
  have ha1 := hwf.a1
  have hll := hwf.len
  have hlm := hwf.m
  obtain ⟨va, vc, hv⟩ := h.own.sl.form
  have hh' := hh
  rw [hv] at hh'
  have hnil : ∀ w' : World, Own 2 54 w' (.slice none 0 0) ([] : List Rec).length (cellsOf encR []) := fun w' => Own.nil
  refine call65 ?_
  simp (maxSteps := 4000000) (disch := (first | assumption | exact List.not_mem_nil | ((repeat (first | assumption | apply cur_alloc | apply cur_setB | apply cur_drew | apply cur_drewN)); done) | omega | (simp only [gz, Value.cells, oneC]; first | done | omega) | ((simp only [List.mem_cons, List.not_mem_nil, or_false, gz]); omega) | rfl)) only [↓gsd, gs, ev, Nat.reduceAdd, Nat.reduceEqDiff, oneC, Value.cells, Option.isNone, gt, ↓hk65]
  generalize hW : World.alloc w _ = w0
  have hf0 : Fr [] w w0 := by rw [← hW]; (repeat (first | exact Fr.refl _ _ | assumption | with_reducible apply Fr.alloc | with_reducible apply Fr.drew | with_reducible refine Fr.setB ?_ _ _ (.inr (by first | omega | (simp only [gz]; omega))) | with_reducible refine Fr.setB ?_ _ _ (.inl (by first | assumption | simp)) | with_reducible refine Fr.trans' ?_ (by assumption)))
  have hz0 : w0.heap.size = w.heap.size + 1 := by rw [← hW]; simp only [gz]
  have g3 : w0.heap[w.heap.size]? = some (.cells ([.int .i64 v.n, .slice v.a v.l v.c] : List Value).toArray 54 (0, 0)) := by rw [← hW]; exact get_alloc_new _ _
  clear hW
  have cw0 := cur w0
  have hlt3 := lt_of_get _ _ g3
  have h0 := h.frN hf0
  have hh0 := hf0.getN hh'
  have hf0' : Fr (rb :: blkL vw) w w0 := Fr.trans (M' := []) (Fr.refl _ w) hf0 (by simp)
  by_cases c1 : v.n ≤ g.at_
  · have d1 : decide (v.n ≤ g.at_) = true := decide_eq_true c1
    have hp : g.put v.n v = (([], false), g) := by unfold GS.put; rw [if_pos (.inl c1)]
    rw [hp] at hK
    refine draw_intro2 (w := w0.drew) (fun _ => []) ?_
    simp (maxSteps := 4000000) (disch := (first | assumption | exact List.not_mem_nil | ((repeat (first | assumption | apply cur_alloc | apply cur_setB | apply cur_drew | apply cur_drewN)); done) | omega | (simp only [gz, Value.cells, oneC]; first | done | omega) | ((simp only [List.mem_cons, List.not_mem_nil, or_false, gz]); omega) | rfl)) only [↓gsd, gs, ev, Nat.reduceAdd, Nat.reduceEqDiff, oneC, Value.cells, Option.isNone, gt, ↓hk65, Fr_self, hh0, g3, d1]
    exact hK _ vw _ (hnil _) (h0.frN (by (repeat (first | exact Fr.refl _ _ | assumption | with_reducible apply Fr.alloc | with_reducible apply Fr.drew | with_reducible refine Fr.setB ?_ _ _ (.inr (by first | omega | (simp only [gz]; omega))) | with_reducible refine Fr.setB ?_ _ _ (.inl (by first | assumption | simp)) | with_reducible refine Fr.trans' ?_ (by assumption))))) (Fr.trans (a := w) (M := rb :: blkL vw) (M' := []) (by (repeat (first | exact Fr.refl _ _ | assumption | with_reducible apply Fr.alloc | with_reducible apply Fr.drew | with_reducible refine Fr.setB ?_ _ _ (.inr (by first | omega | (simp only [gz]; omega))) | with_reducible refine Fr.setB ?_ _ _ (.inl (by first | assumption | simp)) | with_reducible refine Fr.trans' ?_ (by assumption)))) (Fr.refl _ w0).drew (by simp)) (fun x hx => .inl hx) (fun x hx => by simp [Value.ownBlock] at hx)
  have d1 : decide (v.n ≤ g.at_) = false := decide_eq_false c1
  by_cases c2 : 1099511627776 < v.n
  · have d2 : decide (1099511627776 < v.n) = true := decide_eq_true c2
    have hp : g.put v.n v = (([], false), g) := by unfold GS.put; rw [if_pos (.inr (.inl c2))]
    rw [hp] at hK
    refine draw_intro2 (w := w0.drew) (fun _ => []) ?_
    simp (maxSteps := 4000000) (disch := (first | assumption | exact List.not_mem_nil | ((repeat (first | assumption | apply cur_alloc | apply cur_setB | apply cur_drew | apply cur_drewN)); done) | omega | (simp only [gz, Value.cells, oneC]; first | done | omega) | ((simp only [List.mem_cons, List.not_mem_nil, or_false, gz]); omega) | rfl)) only [↓gsd, gs, ev, Nat.reduceAdd, Nat.reduceEqDiff, oneC, Value.cells, Option.isNone, gt, ↓hk65, Fr_self, hh0, g3, d1, d2]
    exact hK _ vw _ (hnil _) (h0.frN (by (repeat (first | exact Fr.refl _ _ | assumption | with_reducible apply Fr.alloc | with_reducible apply Fr.drew | with_reducible refine Fr.setB ?_ _ _ (.inr (by first | omega | (simp only [gz]; omega))) | with_reducible refine Fr.setB ?_ _ _ (.inl (by first | assumption | simp)) | with_reducible refine Fr.trans' ?_ (by assumption))))) (Fr.trans (a := w) (M := rb :: blkL vw) (M' := []) (by (repeat (first | exact Fr.refl _ _ | assumption | with_reducible apply Fr.alloc | with_reducible apply Fr.drew | with_reducible refine Fr.setB ?_ _ _ (.inr (by first | omega | (simp only [gz]; omega))) | with_reducible refine Fr.setB ?_ _ _ (.inl (by first | assumption | simp)) | with_reducible refine Fr.trans' ?_ (by assumption)))) (Fr.refl _ w0).drew (by simp)) (fun x hx => .inl hx) (fun x hx => by simp [Value.ownBlock] at hx)
  have d2 : decide (1099511627776 < v.n) = false := decide_eq_false c2
  refine draw_intro2 (w := w0.drew) (fun _ => []) ?_
  simp (maxSteps := 4000000) (disch := (first | assumption | exact List.not_mem_nil | ((repeat (first | assumption | apply cur_alloc | apply cur_setB | apply cur_drew | apply cur_drewN)); done) | omega | (simp only [gz, Value.cells, oneC]; first | done | omega) | ((simp only [List.mem_cons, List.not_mem_nil, or_false, gz]); omega) | rfl)) only [↓gsd, gs, ev, Nat.reduceAdd, Nat.reduceEqDiff, oneC, Value.cells, Option.isNone, gt, ↓hk65, Fr_self, hh0, g3, d1, d2]
  refine find_spec (h0.frN (Fr.refl _ _).drew) hk (by omega) ?_
  cases hx : aget g.ws v.n with
  | some x =>
    have hp : g.put v.n v = (([], false), g) := by unfold GS.put; rw [if_pos (.inr (.inr (by rw [hx]; rfl)))]
    rw [hp] at hK
    have hfx : fidx g.ws v.n = (aidx g.ws v.n : Int) := by unfold fidx; rw [hx]; rfl
    have d3 : decide (0 ≤ (aidx g.ws v.n : Int)) = true := decide_eq_true (by omega)
    rw [hfx]
    simp (maxSteps := 4000000) (disch := (first | assumption | exact List.not_mem_nil | ((repeat (first | assumption | apply cur_alloc | apply cur_setB | apply cur_drew | apply cur_drewN)); done) | omega | (simp only [gz, Value.cells, oneC]; first | done | omega) | ((simp only [List.mem_cons, List.not_mem_nil, or_false, gz]); omega) | rfl)) only [↓gsd, gs, ev, Nat.reduceAdd, Nat.reduceEqDiff, oneC, Value.cells, Option.isNone, gt, ↓hk65, Fr_self, hh0, g3, d3]
    exact hK _ vw _ (hnil _) (h0.frN (by (repeat (first | exact Fr.refl _ _ | assumption | with_reducible apply Fr.alloc | with_reducible apply Fr.drew | with_reducible refine Fr.setB ?_ _ _ (.inr (by first | omega | (simp only [gz]; omega))) | with_reducible refine Fr.setB ?_ _ _ (.inl (by first | assumption | simp)) | with_reducible refine Fr.trans' ?_ (by assumption))))) (Fr.trans (a := w) (M := rb :: blkL vw) (M' := []) (by (repeat (first | exact Fr.refl _ _ | assumption | with_reducible apply Fr.alloc | with_reducible apply Fr.drew | with_reducible refine Fr.setB ?_ _ _ (.inr (by first | omega | (simp only [gz]; omega))) | with_reducible refine Fr.setB ?_ _ _ (.inl (by first | assumption | simp)) | with_reducible refine Fr.trans' ?_ (by assumption)))) (Fr.refl _ w0).drew (by simp)) (fun x hx => .inl hx) (fun x hx => by simp [Value.ownBlock] at hx)
  | none =>
    have hno : ¬ (v.n ≤ g.at_ ∨ 1099511627776 < v.n ∨ (aget g.ws v.n).isSome) := by
      rw [hx]; simp; exact ⟨by omega, by omega⟩
    have hfx : fidx g.ws v.n = -1 := by unfold fidx; rw [hx]; rfl
    have d3 : decide (0 ≤ (-1 : Int)) = false := by decide
    rw [hfx]
    by_cases c4 : v.n = g.at_ + 1
    · have d4 : decide (g.at_ + 1 < v.n) = false := decide_eq_false (by omega)
      simp (maxSteps := 4000000) (disch := (first | assumption | exact List.not_mem_nil | ((repeat (first | assumption | apply cur_alloc | apply cur_setB | apply cur_drew | apply cur_drewN)); done) | omega | (simp only [gz, Value.cells, oneC]; first | done | omega) | ((simp only [List.mem_cons, List.not_mem_nil, or_false, gz]); omega) | rfl)) only [↓gsd, gs, ev, Nat.reduceAdd, Nat.reduceEqDiff, oneC, Value.cells, Option.isNone, gt, ↓hk65, Fr_self, hh0, g3, d3]
      refine draw_intro2 (w := w0.drew.drew) (fun _ => []) ?_
      simp (maxSteps := 4000000) (disch := (first | assumption | exact List.not_mem_nil | ((repeat (first | assumption | apply cur_alloc | apply cur_setB | apply cur_drew | apply cur_drewN)); done) | omega | (simp only [gz, Value.cells, oneC]; first | done | omega) | ((simp only [List.mem_cons, List.not_mem_nil, or_false, gz]); omega) | rfl)) only [↓gsd, gs, ev, Nat.reduceAdd, Nat.reduceEqDiff, oneC, Value.cells, Option.isNone, gt, ↓hk65, Fr_self, hh0, g3, d4]
      have hp : g.put v.n v = ((v :: (drain g.ws.length v.n g.ws).1, false), ⟨(drain g.ws.length v.n g.ws).2.1, g.most, (drain g.ws.length v.n g.ws).2.2⟩) := by unfold GS.put; rw [if_neg hno, if_pos c4]
      rw [hp] at hK
      obtain ⟨tot, htot⟩ : ∃ t, t = drain g.ws.length v.n g.ws := ⟨_, rfl⟩
      rw [← htot] at hK
      have hnb : rb ∉ blkL vw := fun hm => by
        unfold blkL at hm
        split at hm
        · rename_i g' hg'
          simp at hm
          exact blk_ne h.own hh (ne62 _ _) (hm ▸ hg')
        · simp at hm
      have hbv : vw.ownBlock ≠ some rb := blk_ne h.own hh (ne62 _ _)
      generalize hW : World.setB _ rb _ = w5
      have hf5 : Fr (rb :: blkL vw) w w5 := by rw [← hW]; (repeat (first | exact Fr.refl _ _ | assumption | with_reducible apply Fr.alloc | with_reducible apply Fr.drew | with_reducible refine Fr.setB ?_ _ _ (.inr (by first | omega | (simp only [gz]; omega))) | with_reducible refine Fr.setB ?_ _ _ (.inl (by first | assumption | simp)) | with_reducible refine Fr.trans' ?_ (by assumption)))
      have hf05 : Fr [rb] w0 w5 := by rw [← hW]; (repeat (first | exact Fr.refl _ _ | assumption | with_reducible apply Fr.alloc | with_reducible apply Fr.drew | with_reducible refine Fr.setB ?_ _ _ (.inr (by first | omega | (simp only [gz]; omega))) | with_reducible refine Fr.setB ?_ _ _ (.inl (by first | assumption | simp)) | with_reducible refine Fr.trans' ?_ (by assumption)))
      have hz5 : w0.heap.size < w5.heap.size := by rw [← hW]; simp only [gz]; omega
      have hvo5 : Own 2 54 w5 (.slice (some ⟨w0.heap.size, 0, none⟩) 1 1) 1 (cellsOf encR [v]) := Own.mk (n := 1) (by rw [← hW]; simp (maxSteps := 4000000) (disch := (first | assumption | exact List.not_mem_nil | ((repeat (first | assumption | apply cur_alloc | apply cur_setB | apply cur_drew | apply cur_drewN)); done) | omega | (simp only [gz, Value.cells, oneC]; first | done | omega) | ((simp only [List.mem_cons, List.not_mem_nil, or_false, gz]); omega) | rfl)) only [↓gsd, gs, ev, Nat.reduceAdd, Nat.reduceEqDiff, oneC, Value.cells, Option.isNone] <;> rfl) rfl (by decide)
      have hr5 : RefAt w5 rb vw ⟨v.n, g.most, g.ws⟩ := ⟨by rw [← hW]; simp (maxSteps := 4000000) (disch := (first | assumption | exact List.not_mem_nil | ((repeat (first | assumption | apply cur_alloc | apply cur_setB | apply cur_drew | apply cur_drewN)); done) | omega | (simp only [gz, Value.cells, oneC]; first | done | omega) | ((simp only [List.mem_cons, List.not_mem_nil, or_false, gz]); omega) | rfl)) only [↓gsd, gs, ev, Nat.reduceAdd, Nat.reduceEqDiff, oneC, Value.cells, Option.isNone, hv], h0.own.fr hf05 (by intro b hb e; simp at hb; subst hb; exact hbv e)⟩
      clear hW
      have cw5 := cur w5
      refine loop_intro (fun e w' => ∃ (f : Nat) (a : Int) (ws : List (Int × Rec)) (pre : List Rec) (vo vx : Value), e 0 = .pointer (some ⟨rb, 0, none⟩) ∧ e 6 = vo ∧ Own 2 54 w' vo pre.length (cellsOf encR pre) ∧ (∀ x, vo.ownBlock = some x → w.heap.size ≤ x ∧ vx.ownBlock ≠ some x) ∧
          RefAt w' rb vx ⟨a, g.most, ws⟩ ∧ (∀ p ∈ ws, p.1 = p.2.n ∧ p.1 ≤ 1099511627776) ∧ (ws.map (·.1)).Nodup ∧ ws.length ≤ f ∧ v :: tot.1 = pre ++ (drain f a ws).1 ∧ tot.2 = (drain f a ws).2 ∧ 0 ≤ a ∧ a ≤ 1099511627776 ∧ pre.length + ws.length ≤ 257 ∧
          (∀ x, vx.ownBlock = some x → vw.ownBlock = some x ∨ w.heap.size ≤ x) ∧ Fr (rb :: blkL vw) w w')
        (fun e w' => refLen w'.heap[rb]?) ?_ ?_
      · refine ⟨g.ws.length, v.n, g.ws, [v], .slice (some ⟨w0.heap.size, 0, none⟩) 1 1, vw, ?_⟩
        simp (maxSteps := 4000000) (disch := (first | assumption | exact List.not_mem_nil | ((repeat (first | assumption | apply cur_alloc | apply cur_setB | apply cur_drew | apply cur_drewN)); done) | omega | (simp only [gz, Value.cells, oneC]; first | done | omega) | ((simp only [List.mem_cons, List.not_mem_nil, or_false, gz]); omega) | rfl)) only [↓gsd, gs, ev, Nat.reduceAdd, Nat.reduceEqDiff, oneC, Value.cells, Option.isNone]
        refine ⟨hvo5, fun x hx => ?_, hr5, fun p hp => ⟨hk p hp, (hwf.rng p hp).2⟩, hwf.nd, Nat.le_refl _, (by rw [htot]; rfl : v :: tot.1 = [v] ++ (drain g.ws.length v.n g.ws).1), by rw [htot], by omega, by omega, by show 1 + g.ws.length ≤ 257; omega, fun x hx => .inl hx, hf5⟩
        simp only [Value.ownBlock, Option.some.injEq] at hx
        refine ⟨by omega, fun e => ?_⟩
        have := h.own.lt e
        omega
      · rintro e w6 k ⟨f, a, ws, pre, vo, vx, e0, e6, hown, hfresh, hr, hws, hnd, hlf, ht1, ht2, ha0', ha1', hpl, hvx, hf6⟩ hkk
        have cw6 := cur w6
        have hz6 := hf6.size
        obtain ⟨xa, xc, hvxf⟩ := hr.own.sl.form
        have hh6 := hr.head
        rw [hvxf] at hh6
        simp (maxSteps := 4000000) (disch := (first | assumption | exact List.not_mem_nil | ((repeat (first | assumption | apply cur_alloc | apply cur_setB | apply cur_drew | apply cur_drewN)); done) | omega | (simp only [gz, Value.cells, oneC]; first | done | omega) | ((simp only [List.mem_cons, List.not_mem_nil, or_false, gz]); omega) | rfl)) only [↓gsd, gs, ev, Nat.reduceAdd, Nat.reduceEqDiff, oneC, Value.cells, Option.isNone, gt, ↓hk65, e0, e6, hh6]
        refine find_spec hr (fun p hp => (hws p hp).1) (by simp only; omega) ?_
        simp only
        cases hx : aget ws (a + 1) with
        | none =>
          have hfx' : fidx ws (a + 1) = -1 := by unfold fidx; rw [hx]; rfl
          have dm : decide ((-1 : Int) < 0) = true := by decide
          rw [hfx']
          rw [drain_none hlf hx] at ht1 ht2
          simp only [List.append_nil] at ht1
          simp (maxSteps := 4000000) (disch := (first | assumption | exact List.not_mem_nil | ((repeat (first | assumption | apply cur_alloc | apply cur_setB | apply cur_drew | apply cur_drewN)); done) | omega | (simp only [gz, Value.cells, oneC]; first | done | omega) | ((simp only [List.mem_cons, List.not_mem_nil, or_false, gz]); omega) | rfl)) only [↓gsd, gs, ev, Nat.reduceAdd, Nat.reduceEqDiff, oneC, Value.cells, Option.isNone, gt, ↓hk65, e0, e6, dm]
          rw [ht1, ht2] at hK
          exact hK vo vx _ hown hr hf6 hvx (fun x hx => (hfresh x hx).1)
        | some x =>
          have hsome : (aget ws (a + 1)).isSome := by rw [hx]; rfl
          obtain ⟨her, hti, p, hpg, hpx⟩ := adel_erase ws (a + 1) hsome
          obtain ⟨t, ht⟩ : ∃ t, t = aidx ws (a + 1) := ⟨_, rfl⟩
          rw [← ht] at her hti hpg
          have hfx' : fidx ws (a + 1) = (t : Int) := by unfold fidx; rw [if_pos hsome, ht]
          have dm : decide ((t : Int) < 0) = false := decide_eq_false (by omega)
          rw [hx] at hpx
          cases hpx
          have hxr := (hws _ (aget_mem _ _ hx)).2
          simp only at hxr
          obtain ⟨f', hf', hd1, hd2, hd3⟩ := drain_some hlf hx
          have hpm : (ws.map (·.2))[t]? = some p.2 := by rw [List.getElem?_map, hpg]; rfl
          obtain ⟨b1, o1, p1, ob1, hw1, hob1, _, hrow1, _⟩ := hr.sl.read encR_len t p.2 hpm
          rw [List.length_map] at hw1
          have hh6' := hr.head
          rw [hw1] at hh6'
          have t0 : (0 : Int) ≤ (t : Int) := by omega
          have t1 : (t : Int) < (ws.length : Int) := by omega
          rw [hfx']
          simp only [encR] at hrow1
          simp (maxSteps := 4000000) (disch := (first | assumption | exact List.not_mem_nil | ((repeat (first | assumption | apply cur_alloc | apply cur_setB | apply cur_drew | apply cur_drewN)); done) | omega | (simp only [gz, Value.cells, oneC]; first | done | omega) | ((simp only [List.mem_cons, List.not_mem_nil, or_false, gz]); omega) | rfl)) only [↓gsd, gs, ev, Nat.reduceAdd, Nat.reduceEqDiff, oneC, Value.cells, Option.isNone, gt, ↓hk65, e0, e6, dm, hh6', t0, t1, Int.toNat_natCast, hob1, hrow1]
          generalize hW : World.alloc w6 _ = w7
          have hf7 : Fr [] w6 w7 := by rw [← hW]; (repeat (first | exact Fr.refl _ _ | assumption | with_reducible apply Fr.alloc | with_reducible apply Fr.drew | with_reducible refine Fr.setB ?_ _ _ (.inr (by first | omega | (simp only [gz]; omega))) | with_reducible refine Fr.setB ?_ _ _ (.inl (by first | assumption | simp)) | with_reducible refine Fr.trans' ?_ (by assumption)))
          have hz7 : w6.heap.size < w7.heap.size := by rw [← hW]; simp only [gz]; omega
          have hsl : Sl 2 w7 (.slice (some ⟨w6.heap.size, 0, none⟩) 1 1) 1 (encR p.2) := by rw [← hW]; exact ⟨rfl, .inr ⟨_, 0, 1, _, 54, (0, 0), rfl, get_alloc_new _ _, rfl⟩⟩
          clear hW
          obtain ⟨v4, w8, hr8, hown8, hf8, hbk⟩ := ap60 (ty := 60) (Own.frN hown hf7) hsl rfl (by omega)
          have cw8 := cur w8
          have hz8 := hf8.size
          have hvob : ∀ y ∈ blkL vo, vo.ownBlock = some y := fun y hy => by
            unfold blkL at hy
            split at hy
            · rename_i g' hg'
              simp at hy
              rw [hg', hy]
            · simp at hy
          have hvo_rb : vo.ownBlock ≠ some rb := blk_ne hown hr.head (ne62 _ _)
          have hr8' : RefAt w8 rb vx ⟨a, g.most, ws⟩ := (hr.frN hf7).fr hf8 (fun hm => hvo_rb (hvob _ hm)) (fun b hb => (hfresh b (hvob b hb)).2)
          have hh8 := hr8'.head
          rw [hw1] at hh8
          have hlt8 := lt_of_get _ _ hh8
          have hbvx : vx.ownBlock ≠ some rb := blk_ne hr8'.own hr8'.head (ne62 _ _)
          have hfr4 : ∀ y, v4.ownBlock = some y → w.heap.size ≤ y ∧ vx.ownBlock ≠ some y ∧ y < w8.heap.size ∧ y ≠ rb := fun y hy => by
            have hlt' := hown8.lt hy
            have hne' : y ≠ rb := fun e => blk_ne hown8 hr8'.head (ne62 _ _) (e ▸ hy)
            rcases hbk with h1 | ⟨b', h1, h2⟩
            · have := hfresh y (h1 ▸ hy)
              exact ⟨this.1, this.2, hlt', hne'⟩
            · rw [h1] at hy; cases hy
              refine ⟨by omega, fun e => ?_, hlt', hne'⟩
              have := hr.own.lt e
              omega
          simp (maxSteps := 4000000) (disch := (first | assumption | exact List.not_mem_nil | ((repeat (first | assumption | apply cur_alloc | apply cur_setB | apply cur_drew | apply cur_drewN)); done) | omega | (simp only [gz, Value.cells, oneC]; first | done | omega) | ((simp only [List.mem_cons, List.not_mem_nil, or_false, gz]); omega) | rfl)) only [↓gsd, gs, ev, Nat.reduceAdd, Nat.reduceEqDiff, oneC, Value.cells, Option.isNone, gt, ↓hk65, e0, e6, hr8, hh8]
          generalize hW : World.setB w8 rb _ = w9
          have hf9 : Fr [rb] w8 w9 := by rw [← hW]; (repeat (first | exact Fr.refl _ _ | assumption | with_reducible apply Fr.alloc | with_reducible apply Fr.drew | with_reducible refine Fr.setB ?_ _ _ (.inr (by first | omega | (simp only [gz]; omega))) | with_reducible refine Fr.setB ?_ _ _ (.inl (by first | assumption | simp)) | with_reducible refine Fr.trans' ?_ (by assumption)))
          have hz9 : w9.heap.size = w8.heap.size := by rw [← hW]; simp only [gz]
          have hr9 : RefAt w9 rb vx ⟨a + 1, g.most, ws⟩ := ⟨by rw [← hW]; simp (maxSteps := 4000000) (disch := (first | assumption | exact List.not_mem_nil | ((repeat (first | assumption | apply cur_alloc | apply cur_setB | apply cur_drew | apply cur_drewN)); done) | omega | (simp only [gz, Value.cells, oneC]; first | done | omega) | ((simp only [List.mem_cons, List.not_mem_nil, or_false, gz]); omega) | rfl)) only [↓gsd, gs, ev, Nat.reduceAdd, Nat.reduceEqDiff, oneC, Value.cells, Option.isNone, hw1], hr8'.own.fr hf9 (by intro b hb e; simp at hb; subst hb; exact hbvx e)⟩
          have hown9 : Own 2 54 w9 v4 (pre.length + 1) (cellsOf encR pre ++ encR p.2) := hown8.fr hf9 (by intro b hb e; simp at hb; subst hb; exact (hfr4 _ e).2.2.2 rfl)
          clear hW
          have cw9 := cur w9
          have hF9 : Fr (rb :: blkL vw) w w9 := ((hf6.trans (M' := []) hf7 (by simp)).trans hf8 fun y hy => .inr (hfresh y (hvob y hy)).1).trans hf9 fun y hy => by simp at hy; subst hy; exact .inl (List.mem_cons_self ..)
          refine loop_intro (fun e w' => ∃ (kk : Nat) (vl : Value), kk ≤ ws.length ∧ e 0 = .pointer (some ⟨rb, 0, none⟩) ∧ e 6 = v4 ∧ e 7 = .int .i64 t ∧ e 8 = vl ∧ e 9 = .int .i64 kk ∧
              Own 2 54 w' vl ((ws.take kk).eraseIdx t).length (cellsOf encR (((ws.take kk).eraseIdx t).map (·.2))) ∧ (∀ x, vl.ownBlock = some x → w9.heap.size ≤ x) ∧ Fr [] w9 w')
            (fun e _ => ws.length - (numOf (e 9)).toNat) ?_ ?_
          · refine ⟨0, .slice none 0 0, Nat.zero_le _, ?_⟩
            simp (maxSteps := 4000000) (disch := (first | assumption | exact List.not_mem_nil | ((repeat (first | assumption | apply cur_alloc | apply cur_setB | apply cur_drew | apply cur_drewN)); done) | omega | (simp only [gz, Value.cells, oneC]; first | done | omega) | ((simp only [List.mem_cons, List.not_mem_nil, or_false, gz]); omega) | rfl)) only [↓gsd, gs, ev, Nat.reduceAdd, Nat.reduceEqDiff, oneC, Value.cells, Option.isNone, e0, e6, Int.natCast_zero]
            exact ⟨Own.nil, fun x hx => by simp [Value.ownBlock] at hx, Fr.refl _ _⟩
          · rintro e w10 k' ⟨kk, vl, hkl, e0, e6, e7, e8, e9, hownl, hfreshl, hf10⟩ hkk'
            have cw10 := cur w10
            have hz10 := hf10.size
            have hr10 := hr9.frN hf10
            have hh10 := hr10.head
            rw [hw1] at hh10
            have hlt10 := lt_of_get _ _ hh10
            by_cases hkt : kk < ws.length
            · have dk : decide ((kk : Int) < (ws.length : Int)) = true := decide_eq_true (by omega)
              obtain ⟨q, hq⟩ : ∃ q, ws[kk]? = some q := ⟨ws[kk], List.getElem?_eq_getElem hkt⟩
              have hst := erase_step ws t kk q hq
              by_cases hke : kk = t
              · have de : decide ((kk : Int) = (t : Int)) = true := decide_eq_true (by omega)
                rw [if_pos hke] at hst
                simp (maxSteps := 4000000) (disch := (first | assumption | exact List.not_mem_nil | ((repeat (first | assumption | apply cur_alloc | apply cur_setB | apply cur_drew | apply cur_drewN)); done) | omega | (simp only [gz, Value.cells, oneC]; first | done | omega) | ((simp only [List.mem_cons, List.not_mem_nil, or_false, gz]); omega) | rfl)) only [↓gsd, gs, ev, Nat.reduceAdd, Nat.reduceEqDiff, oneC, Value.cells, Option.isNone, gt, ↓hk65, e0, e6, e7, e8, e9, hh10, dk, de]
                refine hkk' _ _ ⟨kk + 1, vl, by omega, ?_⟩ ?_
                · rw [hst]
                  simp (maxSteps := 4000000) (disch := (first | assumption | exact List.not_mem_nil | ((repeat (first | assumption | apply cur_alloc | apply cur_setB | apply cur_drew | apply cur_drewN)); done) | omega | (simp only [gz, Value.cells, oneC]; first | done | omega) | ((simp only [List.mem_cons, List.not_mem_nil, or_false, gz]); omega) | rfl)) only [↓gsd, gs, ev, Nat.reduceAdd, Nat.reduceEqDiff, oneC, Value.cells, Option.isNone, e0, e6, e7, e8, e9, Int.natCast_add, Int.natCast_one]
                  exact ⟨hownl, hfreshl, hf10⟩
                · have e3 : ((kk : Int) + 1).toNat = kk + 1 := by omega
                  simp (maxSteps := 4000000) (disch := (first | assumption | exact List.not_mem_nil | ((repeat (first | assumption | apply cur_alloc | apply cur_setB | apply cur_drew | apply cur_drewN)); done) | omega | (simp only [gz, Value.cells, oneC]; first | done | omega) | ((simp only [List.mem_cons, List.not_mem_nil, or_false, gz]); omega) | rfl)) only [↓gsd, gs, ev, Nat.reduceAdd, Nat.reduceEqDiff, oneC, Value.cells, Option.isNone, e9, numOf, Int.toNat_natCast, e3]; omega
              · have de : decide ((kk : Int) = (t : Int)) = false := decide_eq_false (by omega)
                rw [if_neg hke] at hst
                have hqm : (ws.map (·.2))[kk]? = some q.2 := by rw [List.getElem?_map, hq]; rfl
                obtain ⟨b2, o2, p2, ob2, hw2, hob2, _, hrow2, _⟩ := hr10.sl.read encR_len kk q.2 hqm
                rw [List.length_map] at hw2
                have hh10' := hr10.head
                rw [hw2] at hh10'
                have k0 : (0 : Int) ≤ (kk : Int) := by omega
                have k1 : (kk : Int) < (ws.length : Int) := by omega
                simp only [encR] at hrow2
                simp (maxSteps := 4000000) (disch := (first | assumption | exact List.not_mem_nil | ((repeat (first | assumption | apply cur_alloc | apply cur_setB | apply cur_drew | apply cur_drewN)); done) | omega | (simp only [gz, Value.cells, oneC]; first | done | omega) | ((simp only [List.mem_cons, List.not_mem_nil, or_false, gz]); omega) | rfl)) only [↓gsd, gs, ev, Nat.reduceAdd, Nat.reduceEqDiff, oneC, Value.cells, Option.isNone, gt, ↓hk65, e0, e6, e7, e8, e9, hh10', dk, de, k0, k1, Int.toNat_natCast, hob2, hrow2]
                generalize hW : World.alloc w10 _ = w11
                have hf11 : Fr [] w10 w11 := by rw [← hW]; (repeat (first | exact Fr.refl _ _ | assumption | with_reducible apply Fr.alloc | with_reducible apply Fr.drew | with_reducible refine Fr.setB ?_ _ _ (.inr (by first | omega | (simp only [gz]; omega))) | with_reducible refine Fr.setB ?_ _ _ (.inl (by first | assumption | simp)) | with_reducible refine Fr.trans' ?_ (by assumption)))
                have hz11 : w10.heap.size < w11.heap.size := by rw [← hW]; simp only [gz]; omega
                have hsl2 : Sl 2 w11 (.slice (some ⟨w10.heap.size, 0, none⟩) 1 1) 1 (encR q.2) := by rw [← hW]; exact ⟨rfl, .inr ⟨_, 0, 1, _, 54, (0, 0), rfl, get_alloc_new _ _, rfl⟩⟩
                clear hW
                have hlk : ((ws.take kk).eraseIdx t).length ≤ 257 := by
                  have := List.length_eraseIdx_le (ws.take kk) t
                  have := List.length_take_le kk ws
                  omega
                obtain ⟨v5, w12, hr12, hown12, hf12, hbk2⟩ := ap60 (ty := 60) (Own.frN hownl hf11) hsl2 rfl (by omega)
                have cw12 := cur w12
                have hnl : ∀ y, y < w9.heap.size → y ∉ blkL vl := fun y hy hm => by
                  unfold blkL at hm
                  split at hm
                  · rename_i g' hg'
                    have := hfreshl g' hg'
                    simp at hm; omega
                  · simp at hm
                simp (maxSteps := 4000000) (disch := (first | assumption | exact List.not_mem_nil | ((repeat (first | assumption | apply cur_alloc | apply cur_setB | apply cur_drew | apply cur_drewN)); done) | omega | (simp only [gz, Value.cells, oneC]; first | done | omega) | ((simp only [List.mem_cons, List.not_mem_nil, or_false, gz]); omega) | rfl)) only [↓gsd, gs, ev, Nat.reduceAdd, Nat.reduceEqDiff, oneC, Value.cells, Option.isNone, gt, ↓hk65, e0, e6, e7, e8, e9, hr12]
                refine hkk' _ _ ⟨kk + 1, v5, by omega, ?_⟩ ?_
                · rw [hst]
                  simp (maxSteps := 4000000) (disch := (first | assumption | exact List.not_mem_nil | ((repeat (first | assumption | apply cur_alloc | apply cur_setB | apply cur_drew | apply cur_drewN)); done) | omega | (simp only [gz, Value.cells, oneC]; first | done | omega) | ((simp only [List.mem_cons, List.not_mem_nil, or_false, gz]); omega) | rfl)) only [↓gsd, gs, ev, Nat.reduceAdd, Nat.reduceEqDiff, oneC, Value.cells, Option.isNone, e0, e6, e7, e8, e9, Int.natCast_add, Int.natCast_one]
                  refine ⟨?_, fun y hy => ?_, (hf10.trans' hf11).trans hf12 fun y hy => .inr (Nat.le_of_not_lt fun hlt => hnl y hlt hy)⟩
                  · simpa [cellsOf_append, cellsOf_one] using hown12
                  · rcases hbk2 with h1 | ⟨b', h1, h2⟩
                    · exact hfreshl y (h1 ▸ hy)
                    · rw [h1] at hy; cases hy; omega
                · have e3 : ((kk : Int) + 1).toNat = kk + 1 := by omega
                  simp (maxSteps := 4000000) (disch := (first | assumption | exact List.not_mem_nil | ((repeat (first | assumption | apply cur_alloc | apply cur_setB | apply cur_drew | apply cur_drewN)); done) | omega | (simp only [gz, Value.cells, oneC]; first | done | omega) | ((simp only [List.mem_cons, List.not_mem_nil, or_false, gz]); omega) | rfl)) only [↓gsd, gs, ev, Nat.reduceAdd, Nat.reduceEqDiff, oneC, Value.cells, Option.isNone, e9, numOf, Int.toNat_natCast, e3]; omega
            · have dk : decide ((kk : Int) < (ws.length : Int)) = false := decide_eq_false (by omega)
              rw [List.take_of_length_le (by omega), ← her] at hownl
              obtain ⟨la, lc, hlf2⟩ := hownl.sl.form
              rw [hlf2] at e8
              have hbl : vl.ownBlock ≠ some rb := fun e => by
                have h1 := hfreshl rb e
                have h2 := lt_of_get _ _ hr9.head
                omega
              simp (maxSteps := 4000000) (disch := (first | assumption | exact List.not_mem_nil | ((repeat (first | assumption | apply cur_alloc | apply cur_setB | apply cur_drew | apply cur_drewN)); done) | omega | (simp only [gz, Value.cells, oneC]; first | done | omega) | ((simp only [List.mem_cons, List.not_mem_nil, or_false, gz]); omega) | rfl)) only [↓gsd, gs, ev, Nat.reduceAdd, Nat.reduceEqDiff, oneC, Value.cells, Option.isNone, gt, ↓hk65, e0, e6, e7, e8, e9, hh10, dk]
              rw [← hlf2]
              refine hkk _ _ ⟨f', a + 1, adel ws (a + 1), pre ++ [p.2], v4, vl, ?_⟩ ?_
              · simp (maxSteps := 4000000) (disch := (first | assumption | exact List.not_mem_nil | ((repeat (first | assumption | apply cur_alloc | apply cur_setB | apply cur_drew | apply cur_drewN)); done) | omega | (simp only [gz, Value.cells, oneC]; first | done | omega) | ((simp only [List.mem_cons, List.not_mem_nil, or_false, gz]); omega) | rfl)) only [↓gsd, gs, ev, Nat.reduceAdd, Nat.reduceEqDiff, oneC, Value.cells, Option.isNone, e0, e6, e7, e8, e9]
                generalize hW : World.setB w10 rb _ = w13
                have hf13 : Fr [rb] w10 w13 := by rw [← hW]; (repeat (first | exact Fr.refl _ _ | assumption | with_reducible apply Fr.alloc | with_reducible apply Fr.drew | with_reducible refine Fr.setB ?_ _ _ (.inr (by first | omega | (simp only [gz]; omega))) | with_reducible refine Fr.setB ?_ _ _ (.inl (by first | assumption | simp)) | with_reducible refine Fr.trans' ?_ (by assumption)))
                have g13 : w13.heap[rb]? = some (.cells ([.int .i64 (a + 1), .int .i64 g.most, vl] : List Value).toArray 62 (0, 0)) := by rw [← hW]; simp (maxSteps := 4000000) (disch := (first | assumption | exact List.not_mem_nil | ((repeat (first | assumption | apply cur_alloc | apply cur_setB | apply cur_drew | apply cur_drewN)); done) | omega | (simp only [gz, Value.cells, oneC]; first | done | omega) | ((simp only [List.mem_cons, List.not_mem_nil, or_false, gz]); omega) | rfl)) only [↓gsd, gs, ev, Nat.reduceAdd, Nat.reduceEqDiff, oneC, Value.cells, Option.isNone]
                clear hW
                refine ⟨?_, fun y hy => ⟨(hfr4 y hy).1, fun e => ?_⟩, ⟨g13, hownl.fr hf13 (by intro b hb e; simp at hb; subst hb; exact hbl e)⟩, fun q hq => hws q (adel_mem _ _ hq), nodup_adel _ _ hnd, hd2, ?_, ?_, by omega, by omega, ?_, fun y hy => .inr ?_, ?_⟩
                · rw [List.length_append, cellsOf_append, cellsOf_one]
                  exact (Own.frN hown9 hf10).fr hf13 (by intro b hb e; simp at hb; subst hb; exact (hfr4 _ e).2.2.2 rfl)
                · have h1 := hfreshl y e
                  have h2 := (hfr4 y hy).2.2.1
                  omega
                · rw [ht1, hd3]; simp
                · rw [ht2, hd3]
                · simp; omega
                · have h1 := hfreshl y hy
                  have := hF9.size
                  omega
                · exact (hF9.trans (M' := []) hf10 (by simp)).trans hf13 fun y hy => by simp at hy; subst hy; exact .inl (List.mem_cons_self ..)
              · have hl6 := hr.head
                simp (maxSteps := 4000000) (disch := (first | assumption | exact List.not_mem_nil | ((repeat (first | assumption | apply cur_alloc | apply cur_setB | apply cur_drew | apply cur_drewN)); done) | omega | (simp only [gz, Value.cells, oneC]; first | done | omega) | ((simp only [List.mem_cons, List.not_mem_nil, or_false, gz]); omega) | rfl)) only [↓gsd, gs, ev, Nat.reduceAdd, Nat.reduceEqDiff, oneC, Value.cells, Option.isNone]
                rw [hl6, hlf2, hvxf]
                simp [refLen, lenOf]
                omega
    · have d4 : decide (g.at_ + 1 < v.n) = true := decide_eq_true (by omega)
      simp (maxSteps := 4000000) (disch := (first | assumption | exact List.not_mem_nil | ((repeat (first | assumption | apply cur_alloc | apply cur_setB | apply cur_drew | apply cur_drewN)); done) | omega | (simp only [gz, Value.cells, oneC]; first | done | omega) | ((simp only [List.mem_cons, List.not_mem_nil, or_false, gz]); omega) | rfl)) only [↓gsd, gs, ev, Nat.reduceAdd, Nat.reduceEqDiff, oneC, Value.cells, Option.isNone, gt, ↓hk65, Fr_self, hh0, g3, d3]
      refine draw_intro2 (w := w0.drew.drew) (fun _ => []) ?_
      simp (maxSteps := 4000000) (disch := (first | assumption | exact List.not_mem_nil | ((repeat (first | assumption | apply cur_alloc | apply cur_setB | apply cur_drew | apply cur_drewN)); done) | omega | (simp only [gz, Value.cells, oneC]; first | done | omega) | ((simp only [List.mem_cons, List.not_mem_nil, or_false, gz]); omega) | rfl)) only [↓gsd, gs, ev, Nat.reduceAdd, Nat.reduceEqDiff, oneC, Value.cells, Option.isNone, gt, ↓hk65, Fr_self, hh0, g3, d4]
      refine draw_intro2 (w := w0.drew.drew.drew) (fun _ => []) ?_
      by_cases c5 : g.ws.length = g.most
      · have d5 : decide ((g.ws.length : Int) = (g.most : Int)) = true := decide_eq_true (by omega)
        have hp : g.put v.n v = (([], true), ⟨g.at_, g.most, []⟩) := by unfold GS.put; rw [if_neg hno, if_neg c4, if_pos (by omega)]
        rw [hp] at hK
        simp (maxSteps := 4000000) (disch := (first | assumption | exact List.not_mem_nil | ((repeat (first | assumption | apply cur_alloc | apply cur_setB | apply cur_drew | apply cur_drewN)); done) | omega | (simp only [gz, Value.cells, oneC]; first | done | omega) | ((simp only [List.mem_cons, List.not_mem_nil, or_false, gz]); omega) | rfl)) only [↓gsd, gs, ev, Nat.reduceAdd, Nat.reduceEqDiff, oneC, Value.cells, Option.isNone, gt, ↓hk65, Fr_self, hh0, g3, d5]
        refine hK _ (.slice none 0 0) _ (hnil _) ⟨?_, Own.nil⟩ (by (repeat (first | exact Fr.refl _ _ | assumption | with_reducible apply Fr.alloc | with_reducible apply Fr.drew | with_reducible refine Fr.setB ?_ _ _ (.inr (by first | omega | (simp only [gz]; omega))) | with_reducible refine Fr.setB ?_ _ _ (.inl (by first | assumption | simp)) | with_reducible refine Fr.trans' ?_ (by assumption)))) (fun x hx => by simp [Value.ownBlock] at hx) (fun x hx => by simp [Value.ownBlock] at hx)
        simp (maxSteps := 4000000) (disch := (first | assumption | exact List.not_mem_nil | ((repeat (first | assumption | apply cur_alloc | apply cur_setB | apply cur_drew | apply cur_drewN)); done) | omega | (simp only [gz, Value.cells, oneC]; first | done | omega) | ((simp only [List.mem_cons, List.not_mem_nil, or_false, gz]); omega) | rfl)) only [↓gsd, gs, ev, Nat.reduceAdd, Nat.reduceEqDiff, oneC, Value.cells, Option.isNone, hh0]
      · have d5 : decide ((g.ws.length : Int) = (g.most : Int)) = false := decide_eq_false (by omega)
        have hp : g.put v.n v = (([], false), ⟨g.at_, g.most, g.ws ++ [(v.n, v)]⟩) := by unfold GS.put; rw [if_neg hno, if_neg c4, if_neg (by omega)]
        rw [hp] at hK
        simp (maxSteps := 4000000) (disch := (first | assumption | exact List.not_mem_nil | ((repeat (first | assumption | apply cur_alloc | apply cur_setB | apply cur_drew | apply cur_drewN)); done) | omega | (simp only [gz, Value.cells, oneC]; first | done | omega) | ((simp only [List.mem_cons, List.not_mem_nil, or_false, gz]); omega) | rfl)) only [↓gsd, gs, ev, Nat.reduceAdd, Nat.reduceEqDiff, oneC, Value.cells, Option.isNone, gt, ↓hk65, Fr_self, hh0, g3, d5]
        refine draw_intro2 (w := w0.drew.drew.drew.drew) (fun t => if t = 4 then [] else if t = 5 then [] else rb :: blkL vw) ?_
        simp (maxSteps := 4000000) (disch := (first | assumption | exact List.not_mem_nil | ((repeat (first | assumption | apply cur_alloc | apply cur_setB | apply cur_drew | apply cur_drewN)); done) | omega | (simp only [gz, Value.cells, oneC]; first | done | omega) | ((simp only [List.mem_cons, List.not_mem_nil, or_false, gz]); omega) | rfl)) only [↓gsd, gs, ev, Nat.reduceAdd, Nat.reduceEqDiff, oneC, Value.cells, Option.isNone, gt, ↓hk65, Fr_self, hh0, g3]
        generalize hW : World.alloc w0.drew.drew.drew.drew _ = w3
        have hf3 : Fr [] w0 w3 := by rw [← hW]; (repeat (first | exact Fr.refl _ _ | assumption | with_reducible apply Fr.alloc | with_reducible apply Fr.drew | with_reducible refine Fr.setB ?_ _ _ (.inr (by first | omega | (simp only [gz]; omega))) | with_reducible refine Fr.setB ?_ _ _ (.inl (by first | assumption | simp)) | with_reducible refine Fr.trans' ?_ (by assumption)))
        have T1 : ∀ M, Fr M w0.drew.drew.drew.drew w3 := fun M => by rw [← hW]; (repeat (first | exact Fr.refl _ _ | assumption | with_reducible apply Fr.alloc | with_reducible apply Fr.drew | with_reducible refine Fr.setB ?_ _ _ (.inr (by first | omega | (simp only [gz]; omega))) | with_reducible refine Fr.setB ?_ _ _ (.inl (by first | assumption | simp)) | with_reducible refine Fr.trans' ?_ (by assumption)))
        have hz3 : w0.heap.size < w3.heap.size := by rw [← hW]; simp only [gz]; omega
        have hsl : Sl 2 w3 (.slice (some ⟨w0.heap.size, 0, none⟩) 1 1) 1 (encR v) := by rw [← hW]; exact ⟨rfl, .inr ⟨_, 0, 1, _, 54, (0, 0), rfl, get_alloc_new _ _, rfl⟩⟩
        clear hW
        have h3 := h0.frN hf3
        obtain ⟨v4, w4, hr4, hown4, hf4, hbk⟩ := ap60 (ty := 60) h3.own hsl rfl (by omega)
        obtain ⟨a4, c4, hv4⟩ := hown4.sl.form
        subst hv4
        have cw4 := cur w4
        have hnb : rb ∉ blkL vw := fun hm => by
          unfold blkL at hm
          split at hm
          · rename_i g' hg'
            simp at hm
            exact blk_ne h.own hh (ne62 _ _) (hm ▸ hg')
          · simp at hm
        have hh4 := hf4.get (hf3.getN hh0) hnb
        have hlt4 := lt_of_get _ _ hh4
        have T2 : Fr (rb :: blkL vw) w0.drew.drew.drew.drew w4 := (T1 _).trans hf4 fun x hx => .inl (List.mem_cons_of_mem _ hx)
        have T2' := eq_true T2
        have T3 : ∀ o, Fr (rb :: blkL vw) w0.drew.drew.drew.drew (w4.setB rb o) = True := fun o => eq_true (T2.setB _ _ (.inl (List.mem_cons_self ..)))
        refine ⟨T1 _, T1 _, T1 _, T1 _, T1 _, ?_⟩
        rw [hv] at hr4
        simp (maxSteps := 4000000) (disch := (first | assumption | exact List.not_mem_nil | ((repeat (first | assumption | apply cur_alloc | apply cur_setB | apply cur_drew | apply cur_drewN)); done) | omega | (simp only [gz, Value.cells, oneC]; first | done | omega) | ((simp only [List.mem_cons, List.not_mem_nil, or_false, gz]); omega) | rfl)) only [↓gsd, gs, ev, Nat.reduceAdd, Nat.reduceEqDiff, oneC, Value.cells, Option.isNone, gt, ↓hk65, Fr_self, T2', T3, hr4, hh4]
        have hb4 : (Value.slice a4 (g.ws.length + 1) c4).ownBlock ≠ some rb := blk_ne hown4 hh4 (ne62 _ _)
        refine hK _ (.slice a4 (g.ws.length + 1) c4) _ (hnil _) ⟨?_, ?_⟩ (((hf0'.trans (M' := []) hf3 (by simp)).trans hf4 fun x hx => .inl (List.mem_cons_of_mem _ hx)).setB _ _ (.inl (List.mem_cons_self ..))) (fun x hx => ?_) (fun x hx => by simp [Value.ownBlock] at hx)
        · simp (maxSteps := 4000000) (disch := (first | assumption | exact List.not_mem_nil | ((repeat (first | assumption | apply cur_alloc | apply cur_setB | apply cur_drew | apply cur_drewN)); done) | omega | (simp only [gz, Value.cells, oneC]; first | done | omega) | ((simp only [List.mem_cons, List.not_mem_nil, or_false, gz]); omega) | rfl)) only [↓gsd, gs, ev, Nat.reduceAdd, Nat.reduceEqDiff, oneC, Value.cells, Option.isNone]
        · have hq : Own 2 54 (w4.setB rb (.cells ([.int .i64 g.at_,   .int .i64 g.most, .slice a4 (g.ws.length + 1) c4] : List Value).toArray 62 (0, 0))) (.slice a4 (g.ws.length + 1) c4) (g.ws.length + 1) (cellsOf encR (g.ws.map (·.2)) ++ encR v) := hown4.fr (M := [rb]) (by (repeat (first | exact Fr.refl _ _ | assumption | with_reducible apply Fr.alloc | with_reducible apply Fr.drew | with_reducible refine Fr.setB ?_ _ _ (.inr (by first | omega | (simp only [gz]; omega))) | with_reducible refine Fr.setB ?_ _ _ (.inl (by first | assumption | simp)) | with_reducible refine Fr.trans' ?_ (by assumption)))) (by intro b hb e; simp at hb; subst hb; exact hb4 e)
          simpa [cellsOf_append, cellsOf_one] using hq
        · rcases hbk with h1 | ⟨b', h1, h2⟩
          · exact .inl (h1 ▸ hx)
          · rw [h1] at hx; cases hx; right; have := hf3.size; omega
end Go.Proofs.Ytenokheiindfkaa
