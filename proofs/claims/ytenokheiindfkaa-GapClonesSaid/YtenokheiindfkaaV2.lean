/- The reference's Waits: the numbers, rising. -/
import Derived.Test.YtenokheiindfkaaV1
set_option linter.unusedVariables false
set_option linter.unusedSimpArgs false
set_option maxRecDepth 10000
namespace Go.Proofs.Ytenokheiindfkaa
open Go.VW
def nstep (last : Int) (best n : Int) : Int := if last < n ∧ (best < 0 ∨ n < best) then n else best
def nxt (last : Int) (L : List Int) : Int := L.foldl (nstep last) (-1)
theorem nxt_gen (last : Int) : ∀ (L : List Int) (best : Int), (∀ n ∈ L, 0 ≤ n) → (L.foldl (nstep last) best = best ∨ (L.foldl (nstep last) best ∈ L ∧ last < L.foldl (nstep last) best)) ∧ (0 ≤ best → 0 ≤ L.foldl (nstep last) best ∧ L.foldl (nstep last) best ≤ best) ∧ ∀ n ∈ L, last < n → 0 ≤ L.foldl (nstep last) best ∧ L.foldl (nstep last) best ≤ n
  | [], best, _ => ⟨.inl rfl, fun h => ⟨h, Int.le_refl _⟩, by simp⟩
  | a :: L, best, h => by
    have ha := h a (List.mem_cons_self ..)
    obtain ⟨h1, h2, h3⟩ := nxt_gen last L (nstep last best a) (fun n hn => h n (List.mem_cons_of_mem _ hn))
    rw [List.foldl_cons]
    generalize hr : L.foldl (nstep last) (nstep last best a) = r at *
    unfold nstep at h1 h2
    by_cases hc : last < a ∧ (best < 0 ∨ a < best)
    · rw [if_pos hc] at h1 h2
      have h2' := h2 ha
      refine ⟨.inr ?_, fun hb => ⟨h2'.1, by omega⟩, fun n hn hl => ?_⟩
      · rcases h1 with h1 | h1
        · rw [h1]; exact ⟨List.mem_cons_self .., hc.1⟩
        · exact ⟨List.mem_cons_of_mem _ h1.1, h1.2⟩
      · rcases List.mem_cons.1 hn with rfl | hn
        · exact h2'
        · exact h3 n hn hl
    · rw [if_neg hc] at h1 h2
      refine ⟨?_, h2, fun n hn hl => ?_⟩
      · rcases h1 with h1 | h1
        · exact .inl h1
        · exact .inr ⟨List.mem_cons_of_mem _ h1.1, h1.2⟩
      · rcases List.mem_cons.1 hn with rfl | hn
        · have hb : 0 ≤ best ∧ best ≤ n := by omega
          have := h2 hb.1
          omega
        · exact h3 n hn hl
theorem sortI_lt {L : List Int} (hn : L.Nodup) : (sortI L).Pairwise (· < ·) := by
  have hs : (sortI L).Pairwise (fun a b => decide (a ≤ b) = true) := List.pairwise_mergeSort (fun a b c h1 h2 => by simp only [decide_eq_true_eq] at *; omega) (fun a b => by simp only [Bool.or_eq_true, decide_eq_true_eq]; omega) L
  have hd : (sortI L).Nodup := (List.mergeSort_perm L _).nodup_iff.2 hn
  have hd' : (sortI L).Pairwise (· ≠ ·) := hd
  exact (hs.and hd').imp fun ⟨h1, h2⟩ => by simp only [decide_eq_true_eq] at h1; omega
theorem nxt_at {L : List Int} {a : Int} (hn : L.Nodup) (hp : ∀ n ∈ L, a < n) (ha : 0 ≤ a) (i : Nat) {last : Int} (hl : last = if i = 0 then a else (sortI L).getD (i - 1) 0) (hi : i ≤ L.length) :
    nxt last L = if i < L.length then (sortI L).getD i 0 else -1 := by
  have hlen := sortI_len L
  have hs := sortI_lt hn
  obtain ⟨h1, _, h3⟩ := nxt_gen last L (-1) (fun n hn => by have := hp n hn; omega)
  change nxt last L = -1 ∨ (nxt last L ∈ L ∧ last < nxt last L) at h1
  have h3' : ∀ n ∈ L, last < n → 0 ≤ nxt last L ∧ nxt last L ≤ n := h3
  have hget : ∀ (j : Nat) (hj : j < (sortI L).length), (sortI L).getD j 0 = (sortI L)[j] := fun j hj => by simp [List.getD, List.getElem?_eq_getElem hj]
  have hle : ∀ (j : Nat) (hj : j < (sortI L).length), j < i → (sortI L)[j] ≤ last := fun j hj hji => by
    rw [hl, if_neg (by omega), hget (i - 1) (by omega)]
    rcases Nat.lt_or_ge j (i - 1) with h | h
    · have := List.pairwise_iff_getElem.1 hs j (i - 1) hj (by omega) h
      omega
    · have : j = i - 1 := by omega
      subst this; omega
  have hgt : ∀ (j : Nat) (hj : j < (sortI L).length), i ≤ j → last < (sortI L)[j] := fun j hj hij => by
    rw [hl]
    split
    · exact hp _ ((sortI_mem L _).1 (List.getElem_mem hj))
    · rw [hget (i - 1) (by omega)]
      exact List.pairwise_iff_getElem.1 hs (i - 1) j (by omega) hj (by omega)
  by_cases hil : i < L.length
  · rw [if_pos hil, hget i (by omega)]
    have hm := h3' _ ((sortI_mem L _).1 (List.getElem_mem (by omega : i < (sortI L).length))) (hgt i (by omega) (Nat.le_refl _))
    rcases h1 with h1 | h1
    · omega
    · obtain ⟨j, hj, hje⟩ := List.getElem_of_mem ((sortI_mem L _).2 h1.1)
      rcases Nat.lt_or_ge j i with h | h
      · have := hle j hj h
        omega
      · rcases Nat.lt_or_ge i j with h' | h'
        · have := List.pairwise_iff_getElem.1 hs i j (by omega) hj h'
          omega
        · have : j = i := by omega
          subst this; omega
  · rw [if_neg hil]
    rcases h1 with h1 | h1
    · exact h1
    · obtain ⟨j, hj, hje⟩ := List.getElem_of_mem ((sortI_mem L _).2 h1.1)
      have := hle j hj (by omega)
      omega
theorem sameNums {va vb : Value} {L : List Int} {w : World} {K : Value → World → Prop} (ha : SlOf 1 (fun v : Int => [Value.int .i64 v]) w va L) (hb : SlOf 1 (fun v : Int => [Value.int .i64 v]) w vb L) (hm : L.length ≤ 9223372036854775806) (hK : ∀ w', Fr [] w w' → K (.bool true) w') : CallsN Try.prog 40 [va, vb] w K := by
  have cw := cur w
  obtain ⟨aa, ac, hva⟩ := ha.form
  obtain ⟨ba, bc, hvb⟩ := hb.form
  refine call40 ?_
  simp (maxSteps := 4000000) (disch := (first | assumption | exact List.not_mem_nil | ((repeat (first | assumption | apply cur_alloc | apply cur_setB | apply cur_drew | apply cur_drewN)); done) | omega | (simp only [gz, Value.cells, oneC]; first | done | omega) | ((simp only [List.mem_cons, List.not_mem_nil, or_false, gz]); omega) | rfl)) only [↓gsd, gs, ev, Nat.reduceAdd, Nat.reduceEqDiff, oneC, Value.cells, Option.isNone, gt, ↓hk40, hva, hvb]
  rw [← hva, ← hvb]
  refine loop_intro (fun e w' => ∃ i : Nat, i ≤ L.length ∧ e 0 = va ∧ e 1 = vb ∧ e 5 = .int .i64 i ∧ Fr [] w w') (fun e _ => L.length - (numOf (e 5)).toNat) ?_ ?_
  · refine ⟨0, Nat.zero_le _, ?_⟩
    simp (maxSteps := 4000000) (disch := (first | assumption | exact List.not_mem_nil | ((repeat (first | assumption | apply cur_alloc | apply cur_setB | apply cur_drew | apply cur_drewN)); done) | omega | (simp only [gz, Value.cells, oneC]; first | done | omega) | ((simp only [List.mem_cons, List.not_mem_nil, or_false, gz]); omega) | rfl)) only [↓gsd, gs, ev, Nat.reduceAdd, Nat.reduceEqDiff, oneC, Value.cells, Option.isNone, Int.natCast_zero]
    (repeat (first | exact Fr.refl _ _ | assumption | with_reducible apply Fr.alloc | with_reducible apply Fr.drew | with_reducible refine Fr.setB ?_ _ _ (.inr (by first | omega | (simp only [gz]; omega))) | with_reducible refine Fr.setB ?_ _ _ (.inl (by first | assumption | simp)) | with_reducible refine Fr.trans' ?_ (by assumption)))
  · rintro e w1 k ⟨i, hi, e0, e1, e5, hf⟩ hk
    have cw1 := cur w1
    have hz1 := hf.size
    by_cases hil : i < L.length
    · have d : decide ((i : Int) < (L.length : Int)) = true := decide_eq_true (by omega)
      obtain ⟨x, hx⟩ : ∃ x, L[i]? = some x := ⟨L[i], List.getElem?_eq_getElem hil⟩
      obtain ⟨b1, o1, p1, ob1, hv1, hb1, _, _, hc1⟩ := (ha.frN hf).read (fun _ => rfl) i x hx
      obtain ⟨b2, o2, p2, ob2, hv2, hb2, _, _, hc2⟩ := (hb.frN hf).read (fun _ => rfl) i x hx
      have hd1 := fun orig K => hc1 0 (.int .i64 x) orig K rfl
      have hd2 := fun orig K => hc2 0 (.int .i64 x) orig K rfl
      simp only [Nat.mul_one, Nat.add_zero] at hd1 hd2
      have i0 : (0 : Int) ≤ (i : Int) := by omega
      have i1 : (i : Int) < (L.length : Int) := by omega
      simp (maxSteps := 4000000) (disch := (first | assumption | exact List.not_mem_nil | ((repeat (first | assumption | apply cur_alloc | apply cur_setB | apply cur_drew | apply cur_drewN)); done) | omega | (simp only [gz, Value.cells, oneC]; first | done | omega) | ((simp only [List.mem_cons, List.not_mem_nil, or_false, gz]); omega) | rfl)) only [↓gsd, gs, ev, Nat.reduceAdd, Nat.reduceEqDiff, oneC, Value.cells, Option.isNone, gt, ↓hk40, e0, e1, e5, hv1, d]
      refine draw_intro [] ?_
      simp (maxSteps := 4000000) (disch := (first | assumption | exact List.not_mem_nil | ((repeat (first | assumption | apply cur_alloc | apply cur_setB | apply cur_drew | apply cur_drewN)); done) | omega | (simp only [gz, Value.cells, oneC]; first | done | omega) | ((simp only [List.mem_cons, List.not_mem_nil, or_false, gz]); omega) | rfl)) only [↓gsd, gs, ev, Nat.reduceAdd, Nat.reduceEqDiff, oneC, Value.cells, Option.isNone, gt, ↓hk40, e0, e1, e5, hv1, hv2, i0, i1, Int.toNat_natCast, Nat.mul_one, hb1, hb2, hd1, hd2]
      refine hk _ _ ⟨i + 1, by omega, ?_⟩ ?_
      · simp (maxSteps := 4000000) (disch := (first | assumption | exact List.not_mem_nil | ((repeat (first | assumption | apply cur_alloc | apply cur_setB | apply cur_drew | apply cur_drewN)); done) | omega | (simp only [gz, Value.cells, oneC]; first | done | omega) | ((simp only [List.mem_cons, List.not_mem_nil, or_false, gz]); omega) | rfl)) only [↓gsd, gs, ev, Nat.reduceAdd, Nat.reduceEqDiff, oneC, Value.cells, Option.isNone, e0, e1, e5, hv1, hv2, Int.natCast_add, Int.natCast_one]
        (repeat (first | exact Fr.refl _ _ | assumption | with_reducible apply Fr.alloc | with_reducible apply Fr.drew | with_reducible refine Fr.setB ?_ _ _ (.inr (by first | omega | (simp only [gz]; omega))) | with_reducible refine Fr.setB ?_ _ _ (.inl (by first | assumption | simp)) | with_reducible refine Fr.trans' ?_ (by assumption)))
      · have e3 : ((i : Int) + 1).toNat = i + 1 := by omega
        simp (maxSteps := 4000000) (disch := (first | assumption | exact List.not_mem_nil | ((repeat (first | assumption | apply cur_alloc | apply cur_setB | apply cur_drew | apply cur_drewN)); done) | omega | (simp only [gz, Value.cells, oneC]; first | done | omega) | ((simp only [List.mem_cons, List.not_mem_nil, or_false, gz]); omega) | rfl)) only [↓gsd, gs, ev, Nat.reduceAdd, Nat.reduceEqDiff, oneC, Value.cells, Option.isNone, e5, numOf, Int.toNat_natCast, e3]; omega
    · have d : decide ((i : Int) < (L.length : Int)) = false := decide_eq_false (by omega)
      simp (maxSteps := 4000000) (disch := (first | assumption | exact List.not_mem_nil | ((repeat (first | assumption | apply cur_alloc | apply cur_setB | apply cur_drew | apply cur_drewN)); done) | omega | (simp only [gz, Value.cells, oneC]; first | done | omega) | ((simp only [List.mem_cons, List.not_mem_nil, or_false, gz]); omega) | rfl)) only [↓gsd, gs, ev, Nat.reduceAdd, Nat.reduceEqDiff, oneC, Value.cells, Option.isNone, gt, ↓hk40, e0, e1, e5, hva, d]
      exact hK _ hf
def lenOf : Value → Nat
  | .slice _ n _ => n
  | _ => 0
set_option maxHeartbeats 4000000 in
theorem refWaits {w : World} {rb : Nat} {vw : Value} {g : GS Rec} {K : Value → World → Prop} (h : RefAt w rb vw g) (hk : KeyN g) (hwf : g.WF)
    (hK : ∀ vo w', Own 1 2 w' vo g.ws.length ((sortI (g.ws.map (·.1))).map (Value.int .i64)) → Fr [] w w' → (∀ x, vo.ownBlock = some x → w.heap.size ≤ x) → K vo w') : CallsN Try.prog 41 [.pointer (some ⟨rb, 0, none⟩)] w K := by
  have cw := cur w
  have hh := h.head
  have hlt := lt_of_get _ _ hh
  have ha0 := hwf.a0
  have hll := hwf.len
  have hlm := hwf.m
  obtain ⟨S, hS⟩ : ∃ S, S = sortI (g.ws.map (·.1)) := ⟨_, rfl⟩
  have hSl : S.length = g.ws.length := by rw [hS, sortI_len, List.length_map]
  obtain ⟨va, vc, hv⟩ := h.own.sl.form
  have hh' := hh
  rw [hv] at hh'
  refine call41 ?_
  simp (maxSteps := 4000000) (disch := (first | assumption | exact List.not_mem_nil | ((repeat (first | assumption | apply cur_alloc | apply cur_setB | apply cur_drew | apply cur_drewN)); done) | omega | (simp only [gz, Value.cells, oneC]; first | done | omega) | ((simp only [List.mem_cons, List.not_mem_nil, or_false, gz]); omega) | rfl)) only [↓gsd, gs, ev, Nat.reduceAdd, Nat.reduceEqDiff, oneC, Value.cells, Option.isNone, gt, ↓hk41, hh']
  refine loop_intro (fun e w' => ∃ (i : Nat) (vo : Value) (last : Int), i ≤ g.ws.length ∧ e 0 = .pointer (some ⟨rb, 0, none⟩) ∧ e 3 = vo ∧ e 4 = .int .i64 last ∧ (last = if i = 0 then g.at_ else S.getD (i - 1) 0) ∧ Own 1 2 w' vo i ((S.take i).map (Value.int .i64)) ∧ (∀ x, vo.ownBlock = some x → w.heap.size ≤ x) ∧ Fr [] w w')
    (fun e _ => g.ws.length - lenOf (e 3)) ?_ ?_
  · refine ⟨0, .slice none 0 0, g.at_, Nat.zero_le _, ?_⟩
    simp (maxSteps := 4000000) (disch := (first | assumption | exact List.not_mem_nil | ((repeat (first | assumption | apply cur_alloc | apply cur_setB | apply cur_drew | apply cur_drewN)); done) | omega | (simp only [gz, Value.cells, oneC]; first | done | omega) | ((simp only [List.mem_cons, List.not_mem_nil, or_false, gz]); omega) | rfl)) only [↓gsd, gs, ev, Nat.reduceAdd, Nat.reduceEqDiff, oneC, Value.cells, Option.isNone]
    exact ⟨Own.nil, fun x hx => by simp [Value.ownBlock] at hx, Fr.refl _ _⟩
  · rintro e w1 k ⟨i, vo, last, hi, e0, e3, e4, hlast, hown, hfresh, hf⟩ hkk
    have cw1 := cur w1
    have hz1 := hf.size
    have hh1 := hf.getN hh'
    have E3 := e3
    have h1 := h.frN hf
    have hnx := nxt_at (last := last) hwf.nd (fun n hn => by obtain ⟨p, hp, rfl⟩ := List.mem_map.1 hn; have := hwf.rng p hp; omega) ha0 i (by rw [← hS]; exact hlast) (by rw [List.length_map]; exact hi)
    rw [← hS, List.length_map] at hnx
    simp (maxSteps := 4000000) (disch := (first | assumption | exact List.not_mem_nil | ((repeat (first | assumption | apply cur_alloc | apply cur_setB | apply cur_drew | apply cur_drewN)); done) | omega | (simp only [gz, Value.cells, oneC]; first | done | omega) | ((simp only [List.mem_cons, List.not_mem_nil, or_false, gz]); omega) | rfl)) only [↓gsd, gs, ev, Nat.reduceAdd, Nat.reduceEqDiff, oneC, Value.cells, Option.isNone, gt, ↓hk41, e0, e3, e4]
    refine loop_intro (fun e w' => ∃ j : Nat, j ≤ g.ws.length ∧ e 0 = .pointer (some ⟨rb, 0, none⟩) ∧ e 3 = vo ∧ e 4 = .int .i64 last ∧ e 5 = .int .i64 (((g.ws.map (·.1)).take j).foldl (nstep last) (-1)) ∧ e 6 = .int .i64 j ∧ w' = w1)
      (fun e _ => g.ws.length - (numOf (e 6)).toNat) ?_ ?_
    · refine ⟨0, Nat.zero_le _, ?_⟩
      simp (maxSteps := 4000000) (disch := (first | assumption | exact List.not_mem_nil | ((repeat (first | assumption | apply cur_alloc | apply cur_setB | apply cur_drew | apply cur_drewN)); done) | omega | (simp only [gz, Value.cells, oneC]; first | done | omega) | ((simp only [List.mem_cons, List.not_mem_nil, or_false, gz]); omega) | rfl)) only [↓gsd, gs, ev, Nat.reduceAdd, Nat.reduceEqDiff, oneC, Value.cells, Option.isNone, e0, e3, e4, Int.natCast_zero]
      rfl
    · rintro e w2 k' ⟨j, hj, e0, e3, e4, e5, e6, rfl⟩ hkk'
      by_cases hjl : j < g.ws.length
      · have d : decide ((j : Int) < (g.ws.length : Int)) = true := decide_eq_true (by omega)
        obtain ⟨p, hp⟩ : ∃ p, g.ws[j]? = some p := ⟨g.ws[j], List.getElem?_eq_getElem hjl⟩
        have hpm : (g.ws.map (·.2))[j]? = some p.2 := by rw [List.getElem?_map, hp]; rfl
        have hpn := hk p (List.mem_of_getElem? hp)
        have hp1 : (g.ws.map (·.1))[j]? = some p.2.n := by rw [List.getElem?_map, hp, ← hpn]; rfl
        obtain ⟨b1, o1, p1, ob1, hw1, hob1, _, _, hc1⟩ := h1.sl.read encR_len j p.2 hpm
        have hd1 := fun orig K => hc1 0 (.int .i64 p.2.n) orig K rfl
        simp only [Nat.add_zero] at hd1
        rw [List.length_map] at hw1
        have hh2 := h1.head
        rw [hw1] at hh2
        have j0 : (0 : Int) ≤ (j : Int) := by omega
        have j1 : (j : Int) < (g.ws.length : Int) := by omega
        obtain ⟨bst, hbst⟩ : ∃ b, b = ((g.ws.map (·.1)).take j).foldl (nstep last) (-1) := ⟨_, rfl⟩
        rw [← hbst] at e5
        have hnext : ((g.ws.map (·.1)).take (j + 1)).foldl (nstep last) (-1) = nstep last bst p.2.n := by
          rw [List.take_add_one, hp1, List.foldl_append, ← hbst]; rfl
        have hgo : ∀ e' : Env, e' 0 = .pointer (some ⟨rb, 0, none⟩) → e' 3 = vo → e' 4 = .int .i64 last → e' 5 = .int .i64 (nstep last bst p.2.n) → e' 6 = .int .i64 (j + 1) → k' e' w2 := by
          intro e' q0 q3 q4 q5 q6
          refine hkk' _ _ ⟨j + 1, by omega, q0, q3, q4, by rw [hnext]; exact q5, by rw [q6]; simp, rfl⟩ ?_
          have e3 : ((j : Int) + 1).toNat = j + 1 := by omega
          simp only [q6, e6, numOf, Int.toNat_natCast, e3]; omega
        unfold nstep at hgo
        by_cases c1 : last < p.2.n
        · have d1 : decide (last < p.2.n) = true := decide_eq_true c1
          by_cases c2 : bst < 0
          · have d2 : decide (bst < 0) = true := decide_eq_true c2
            rw [if_pos ⟨c1, .inl c2⟩] at hgo
            simp (maxSteps := 4000000) (disch := (first | assumption | exact List.not_mem_nil | ((repeat (first | assumption | apply cur_alloc | apply cur_setB | apply cur_drew | apply cur_drewN)); done) | omega | (simp only [gz, Value.cells, oneC]; first | done | omega) | ((simp only [List.mem_cons, List.not_mem_nil, or_false, gz]); omega) | rfl)) only [↓gsd, gs, ev, Nat.reduceAdd, Nat.reduceEqDiff, oneC, Value.cells, Option.isNone, gt, ↓hk41, e0, e3, e4, e5, e6, hh2, d, j0, j1, Int.toNat_natCast, hob1, hd1, d1, d2]
            exact hgo _ (by simp (maxSteps := 4000000) (disch := (first | assumption | exact List.not_mem_nil | ((repeat (first | assumption | apply cur_alloc | apply cur_setB | apply cur_drew | apply cur_drewN)); done) | omega | (simp only [gz, Value.cells, oneC]; first | done | omega) | ((simp only [List.mem_cons, List.not_mem_nil, or_false, gz]); omega) | rfl)) only [↓gsd, gs, ev, Nat.reduceAdd, Nat.reduceEqDiff, oneC, Value.cells, Option.isNone, e0]) (by simp (maxSteps := 4000000) (disch := (first | assumption | exact List.not_mem_nil | ((repeat (first | assumption | apply cur_alloc | apply cur_setB | apply cur_drew | apply cur_drewN)); done) | omega | (simp only [gz, Value.cells, oneC]; first | done | omega) | ((simp only [List.mem_cons, List.not_mem_nil, or_false, gz]); omega) | rfl)) only [↓gsd, gs, ev, Nat.reduceAdd, Nat.reduceEqDiff, oneC, Value.cells, Option.isNone, e3]) (by simp (maxSteps := 4000000) (disch := (first | assumption | exact List.not_mem_nil | ((repeat (first | assumption | apply cur_alloc | apply cur_setB | apply cur_drew | apply cur_drewN)); done) | omega | (simp only [gz, Value.cells, oneC]; first | done | omega) | ((simp only [List.mem_cons, List.not_mem_nil, or_false, gz]); omega) | rfl)) only [↓gsd, gs, ev, Nat.reduceAdd, Nat.reduceEqDiff, oneC, Value.cells, Option.isNone, e4]) (by simp (maxSteps := 4000000) (disch := (first | assumption | exact List.not_mem_nil | ((repeat (first | assumption | apply cur_alloc | apply cur_setB | apply cur_drew | apply cur_drewN)); done) | omega | (simp only [gz, Value.cells, oneC]; first | done | omega) | ((simp only [List.mem_cons, List.not_mem_nil, or_false, gz]); omega) | rfl)) only [↓gsd, gs, ev, Nat.reduceAdd, Nat.reduceEqDiff, oneC, Value.cells, Option.isNone]) (by simp (maxSteps := 4000000) (disch := (first | assumption | exact List.not_mem_nil | ((repeat (first | assumption | apply cur_alloc | apply cur_setB | apply cur_drew | apply cur_drewN)); done) | omega | (simp only [gz, Value.cells, oneC]; first | done | omega) | ((simp only [List.mem_cons, List.not_mem_nil, or_false, gz]); omega) | rfl)) only [↓gsd, gs, ev, Nat.reduceAdd, Nat.reduceEqDiff, oneC, Value.cells, Option.isNone])
          · have d2 : decide (bst < 0) = false := decide_eq_false c2
            by_cases c3 : p.2.n < bst
            · have d3 : decide (p.2.n < bst) = true := decide_eq_true c3
              rw [if_pos ⟨c1, .inr c3⟩] at hgo
              simp (maxSteps := 4000000) (disch := (first | assumption | exact List.not_mem_nil | ((repeat (first | assumption | apply cur_alloc | apply cur_setB | apply cur_drew | apply cur_drewN)); done) | omega | (simp only [gz, Value.cells, oneC]; first | done | omega) | ((simp only [List.mem_cons, List.not_mem_nil, or_false, gz]); omega) | rfl)) only [↓gsd, gs, ev, Nat.reduceAdd, Nat.reduceEqDiff, oneC, Value.cells, Option.isNone, gt, ↓hk41, e0, e3, e4, e5, e6, hh2, d, j0, j1, Int.toNat_natCast, hob1, hd1, d1, d2, d3]
              exact hgo _ (by simp (maxSteps := 4000000) (disch := (first | assumption | exact List.not_mem_nil | ((repeat (first | assumption | apply cur_alloc | apply cur_setB | apply cur_drew | apply cur_drewN)); done) | omega | (simp only [gz, Value.cells, oneC]; first | done | omega) | ((simp only [List.mem_cons, List.not_mem_nil, or_false, gz]); omega) | rfl)) only [↓gsd, gs, ev, Nat.reduceAdd, Nat.reduceEqDiff, oneC, Value.cells, Option.isNone, e0]) (by simp (maxSteps := 4000000) (disch := (first | assumption | exact List.not_mem_nil | ((repeat (first | assumption | apply cur_alloc | apply cur_setB | apply cur_drew | apply cur_drewN)); done) | omega | (simp only [gz, Value.cells, oneC]; first | done | omega) | ((simp only [List.mem_cons, List.not_mem_nil, or_false, gz]); omega) | rfl)) only [↓gsd, gs, ev, Nat.reduceAdd, Nat.reduceEqDiff, oneC, Value.cells, Option.isNone, e3]) (by simp (maxSteps := 4000000) (disch := (first | assumption | exact List.not_mem_nil | ((repeat (first | assumption | apply cur_alloc | apply cur_setB | apply cur_drew | apply cur_drewN)); done) | omega | (simp only [gz, Value.cells, oneC]; first | done | omega) | ((simp only [List.mem_cons, List.not_mem_nil, or_false, gz]); omega) | rfl)) only [↓gsd, gs, ev, Nat.reduceAdd, Nat.reduceEqDiff, oneC, Value.cells, Option.isNone, e4]) (by simp (maxSteps := 4000000) (disch := (first | assumption | exact List.not_mem_nil | ((repeat (first | assumption | apply cur_alloc | apply cur_setB | apply cur_drew | apply cur_drewN)); done) | omega | (simp only [gz, Value.cells, oneC]; first | done | omega) | ((simp only [List.mem_cons, List.not_mem_nil, or_false, gz]); omega) | rfl)) only [↓gsd, gs, ev, Nat.reduceAdd, Nat.reduceEqDiff, oneC, Value.cells, Option.isNone]) (by simp (maxSteps := 4000000) (disch := (first | assumption | exact List.not_mem_nil | ((repeat (first | assumption | apply cur_alloc | apply cur_setB | apply cur_drew | apply cur_drewN)); done) | omega | (simp only [gz, Value.cells, oneC]; first | done | omega) | ((simp only [List.mem_cons, List.not_mem_nil, or_false, gz]); omega) | rfl)) only [↓gsd, gs, ev, Nat.reduceAdd, Nat.reduceEqDiff, oneC, Value.cells, Option.isNone])
            · have d3 : decide (p.2.n < bst) = false := decide_eq_false c3
              rw [if_neg (fun hh => by omega)] at hgo
              simp (maxSteps := 4000000) (disch := (first | assumption | exact List.not_mem_nil | ((repeat (first | assumption | apply cur_alloc | apply cur_setB | apply cur_drew | apply cur_drewN)); done) | omega | (simp only [gz, Value.cells, oneC]; first | done | omega) | ((simp only [List.mem_cons, List.not_mem_nil, or_false, gz]); omega) | rfl)) only [↓gsd, gs, ev, Nat.reduceAdd, Nat.reduceEqDiff, oneC, Value.cells, Option.isNone, gt, ↓hk41, e0, e3, e4, e5, e6, hh2, d, j0, j1, Int.toNat_natCast, hob1, hd1, d1, d2, d3]
              exact hgo _ (by simp (maxSteps := 4000000) (disch := (first | assumption | exact List.not_mem_nil | ((repeat (first | assumption | apply cur_alloc | apply cur_setB | apply cur_drew | apply cur_drewN)); done) | omega | (simp only [gz, Value.cells, oneC]; first | done | omega) | ((simp only [List.mem_cons, List.not_mem_nil, or_false, gz]); omega) | rfl)) only [↓gsd, gs, ev, Nat.reduceAdd, Nat.reduceEqDiff, oneC, Value.cells, Option.isNone, e0]) (by simp (maxSteps := 4000000) (disch := (first | assumption | exact List.not_mem_nil | ((repeat (first | assumption | apply cur_alloc | apply cur_setB | apply cur_drew | apply cur_drewN)); done) | omega | (simp only [gz, Value.cells, oneC]; first | done | omega) | ((simp only [List.mem_cons, List.not_mem_nil, or_false, gz]); omega) | rfl)) only [↓gsd, gs, ev, Nat.reduceAdd, Nat.reduceEqDiff, oneC, Value.cells, Option.isNone, e3]) (by simp (maxSteps := 4000000) (disch := (first | assumption | exact List.not_mem_nil | ((repeat (first | assumption | apply cur_alloc | apply cur_setB | apply cur_drew | apply cur_drewN)); done) | omega | (simp only [gz, Value.cells, oneC]; first | done | omega) | ((simp only [List.mem_cons, List.not_mem_nil, or_false, gz]); omega) | rfl)) only [↓gsd, gs, ev, Nat.reduceAdd, Nat.reduceEqDiff, oneC, Value.cells, Option.isNone, e4]) (by simp (maxSteps := 4000000) (disch := (first | assumption | exact List.not_mem_nil | ((repeat (first | assumption | apply cur_alloc | apply cur_setB | apply cur_drew | apply cur_drewN)); done) | omega | (simp only [gz, Value.cells, oneC]; first | done | omega) | ((simp only [List.mem_cons, List.not_mem_nil, or_false, gz]); omega) | rfl)) only [↓gsd, gs, ev, Nat.reduceAdd, Nat.reduceEqDiff, oneC, Value.cells, Option.isNone, e5]) (by simp (maxSteps := 4000000) (disch := (first | assumption | exact List.not_mem_nil | ((repeat (first | assumption | apply cur_alloc | apply cur_setB | apply cur_drew | apply cur_drewN)); done) | omega | (simp only [gz, Value.cells, oneC]; first | done | omega) | ((simp only [List.mem_cons, List.not_mem_nil, or_false, gz]); omega) | rfl)) only [↓gsd, gs, ev, Nat.reduceAdd, Nat.reduceEqDiff, oneC, Value.cells, Option.isNone])
        · have d1 : decide (last < p.2.n) = false := decide_eq_false c1
          rw [if_neg (fun hh => c1 hh.1)] at hgo
          simp (maxSteps := 4000000) (disch := (first | assumption | exact List.not_mem_nil | ((repeat (first | assumption | apply cur_alloc | apply cur_setB | apply cur_drew | apply cur_drewN)); done) | omega | (simp only [gz, Value.cells, oneC]; first | done | omega) | ((simp only [List.mem_cons, List.not_mem_nil, or_false, gz]); omega) | rfl)) only [↓gsd, gs, ev, Nat.reduceAdd, Nat.reduceEqDiff, oneC, Value.cells, Option.isNone, gt, ↓hk41, e0, e3, e4, e5, e6, hh2, d, j0, j1, Int.toNat_natCast, hob1, hd1, d1]
          exact hgo _ (by simp (maxSteps := 4000000) (disch := (first | assumption | exact List.not_mem_nil | ((repeat (first | assumption | apply cur_alloc | apply cur_setB | apply cur_drew | apply cur_drewN)); done) | omega | (simp only [gz, Value.cells, oneC]; first | done | omega) | ((simp only [List.mem_cons, List.not_mem_nil, or_false, gz]); omega) | rfl)) only [↓gsd, gs, ev, Nat.reduceAdd, Nat.reduceEqDiff, oneC, Value.cells, Option.isNone, e0]) (by simp (maxSteps := 4000000) (disch := (first | assumption | exact List.not_mem_nil | ((repeat (first | assumption | apply cur_alloc | apply cur_setB | apply cur_drew | apply cur_drewN)); done) | omega | (simp only [gz, Value.cells, oneC]; first | done | omega) | ((simp only [List.mem_cons, List.not_mem_nil, or_false, gz]); omega) | rfl)) only [↓gsd, gs, ev, Nat.reduceAdd, Nat.reduceEqDiff, oneC, Value.cells, Option.isNone, e3]) (by simp (maxSteps := 4000000) (disch := (first | assumption | exact List.not_mem_nil | ((repeat (first | assumption | apply cur_alloc | apply cur_setB | apply cur_drew | apply cur_drewN)); done) | omega | (simp only [gz, Value.cells, oneC]; first | done | omega) | ((simp only [List.mem_cons, List.not_mem_nil, or_false, gz]); omega) | rfl)) only [↓gsd, gs, ev, Nat.reduceAdd, Nat.reduceEqDiff, oneC, Value.cells, Option.isNone, e4]) (by simp (maxSteps := 4000000) (disch := (first | assumption | exact List.not_mem_nil | ((repeat (first | assumption | apply cur_alloc | apply cur_setB | apply cur_drew | apply cur_drewN)); done) | omega | (simp only [gz, Value.cells, oneC]; first | done | omega) | ((simp only [List.mem_cons, List.not_mem_nil, or_false, gz]); omega) | rfl)) only [↓gsd, gs, ev, Nat.reduceAdd, Nat.reduceEqDiff, oneC, Value.cells, Option.isNone, e5]) (by simp (maxSteps := 4000000) (disch := (first | assumption | exact List.not_mem_nil | ((repeat (first | assumption | apply cur_alloc | apply cur_setB | apply cur_drew | apply cur_drewN)); done) | omega | (simp only [gz, Value.cells, oneC]; first | done | omega) | ((simp only [List.mem_cons, List.not_mem_nil, or_false, gz]); omega) | rfl)) only [↓gsd, gs, ev, Nat.reduceAdd, Nat.reduceEqDiff, oneC, Value.cells, Option.isNone])
      · have d : decide ((j : Int) < (g.ws.length : Int)) = false := decide_eq_false (by omega)
        rw [List.take_of_length_le (by rw [List.length_map]; omega)] at e5
        change e 5 = .int .i64 (nxt last (g.ws.map (·.1))) at e5
        rw [hnx] at e5
        by_cases hil : i < g.ws.length
        · rw [if_pos hil] at e5
          obtain ⟨y, hy⟩ : ∃ y, S[i]? = some y := ⟨S[i], List.getElem?_eq_getElem (by omega)⟩
          have hyd : S.getD i 0 = y := by simp [List.getD, hy]
          rw [hyd] at e5
          have hy0 : 0 ≤ y := by
            have hm := List.mem_of_getElem? hy
            rw [hS] at hm
            obtain ⟨q, hq, hqy⟩ := List.mem_map.1 ((sortI_mem _ _).1 hm)
            have := hwf.rng q hq
            omega
          have d2 : decide (y < 0) = false := decide_eq_false (by omega)
          simp (maxSteps := 4000000) (disch := (first | assumption | exact List.not_mem_nil | ((repeat (first | assumption | apply cur_alloc | apply cur_setB | apply cur_drew | apply cur_drewN)); done) | omega | (simp only [gz, Value.cells, oneC]; first | done | omega) | ((simp only [List.mem_cons, List.not_mem_nil, or_false, gz]); omega) | rfl)) only [↓gsd, gs, ev, Nat.reduceAdd, Nat.reduceEqDiff, oneC, Value.cells, Option.isNone, gt, ↓hk41, e0, e3, e4, e5, e6, hh1, d, d2]
          generalize hW : World.alloc w2 _ = w3
          have hf3 : Fr [] w2 w3 := by rw [← hW]; (repeat (first | exact Fr.refl _ _ | assumption | with_reducible apply Fr.alloc | with_reducible apply Fr.drew | with_reducible refine Fr.setB ?_ _ _ (.inr (by first | omega | (simp only [gz]; omega))) | with_reducible refine Fr.setB ?_ _ _ (.inl (by first | assumption | simp)) | with_reducible refine Fr.trans' ?_ (by assumption)))
          have hz3 : w2.heap.size < w3.heap.size := by rw [← hW]; simp only [gz]; omega
          have hsl : Sl 1 w3 (.slice (some ⟨w2.heap.size, 0, none⟩) 1 1) 1 [.int .i64 y] := by rw [← hW]; exact ⟨rfl, .inr ⟨_, 0, 1, _, 2, (0, 0), rfl, get_alloc_new _ _, rfl⟩⟩
          clear hW
          obtain ⟨v4, w4, hr4, hown4, hf4, hbk⟩ := ap71 (ty := 71) (Own.frN hown hf3) hsl rfl (by omega)
          have cw4 := cur w4
          have hnb : ∀ z, z < w.heap.size → z ∉ blkL vo := fun z hz hm => by
            unfold blkL at hm
            split at hm
            · rename_i g' hg'
              have := hfresh g' hg'
              simp at hm; omega
            · simp at hm
          obtain ⟨a4, c4, hv4⟩ := hown4.sl.form
          obtain ⟨a5, c5, hv5⟩ := hown.sl.form
          simp (maxSteps := 4000000) (disch := (first | assumption | exact List.not_mem_nil | ((repeat (first | assumption | apply cur_alloc | apply cur_setB | apply cur_drew | apply cur_drewN)); done) | omega | (simp only [gz, Value.cells, oneC]; first | done | omega) | ((simp only [List.mem_cons, List.not_mem_nil, or_false, gz]); omega) | rfl)) only [↓gsd, gs, ev, Nat.reduceAdd, Nat.reduceEqDiff, oneC, Value.cells, Option.isNone, gt, ↓hk41, e0, e3, e4, e5, e6, hr4]
          refine hkk _ _ ⟨i + 1, v4, y, by omega, ?_⟩ ?_
          · simp (maxSteps := 4000000) (disch := (first | assumption | exact List.not_mem_nil | ((repeat (first | assumption | apply cur_alloc | apply cur_setB | apply cur_drew | apply cur_drewN)); done) | omega | (simp only [gz, Value.cells, oneC]; first | done | omega) | ((simp only [List.mem_cons, List.not_mem_nil, or_false, gz]); omega) | rfl)) only [↓gsd, gs, ev, Nat.reduceAdd, Nat.reduceEqDiff, oneC, Value.cells, Option.isNone, e0, e3, e4, e5, e6]
            refine ⟨?_, ?_, fun z hz => ?_, (hf.trans' hf3).trans hf4 fun z hz => .inr (Nat.le_of_not_lt fun hlt => hnb z hlt hz)⟩
            · show y = S.getD i 0
              rw [hyd]
            · rw [List.take_add_one, hy]
              simpa using hown4
            · rcases hbk with h1 | ⟨b', h1, h2⟩
              · exact hfresh z (h1 ▸ hz)
              · rw [h1] at hz; cases hz; omega
          · simp (maxSteps := 4000000) (disch := (first | assumption | exact List.not_mem_nil | ((repeat (first | assumption | apply cur_alloc | apply cur_setB | apply cur_drew | apply cur_drewN)); done) | omega | (simp only [gz, Value.cells, oneC]; first | done | omega) | ((simp only [List.mem_cons, List.not_mem_nil, or_false, gz]); omega) | rfl)) only [↓gsd, gs, ev, Nat.reduceAdd, Nat.reduceEqDiff, oneC, Value.cells, Option.isNone, E3, hv4, hv5, lenOf]
            omega
        · rw [if_neg hil] at e5
          have d2 : decide ((-1 : Int) < 0) = true := by decide
          obtain rfl : i = g.ws.length := by omega
          rw [List.take_of_length_le (by omega), hS] at hown
          simp (maxSteps := 4000000) (disch := (first | assumption | exact List.not_mem_nil | ((repeat (first | assumption | apply cur_alloc | apply cur_setB | apply cur_drew | apply cur_drewN)); done) | omega | (simp only [gz, Value.cells, oneC]; first | done | omega) | ((simp only [List.mem_cons, List.not_mem_nil, or_false, gz]); omega) | rfl)) only [↓gsd, gs, ev, Nat.reduceAdd, Nat.reduceEqDiff, oneC, Value.cells, Option.isNone, gt, ↓hk41, e0, e3, e4, e5, e6, hh1, d, d2]
          exact hK _ _ hown hf hfresh
end Go.Proofs.Ytenokheiindfkaa
