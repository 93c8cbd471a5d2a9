/- GapWhole walked: the list is built and permuted. -/
import Derived.Test.YtenokheiindfkaaO3
set_option linter.unusedVariables false
set_option linter.unusedSimpArgs false
set_option maxRecDepth 10000
namespace Go.Proofs.Ytenokheiindfkaa
open Go.VW
abbrev ints (L : List Int) : List Value := L.map (Value.int .i64)
theorem stV_set (orig : Prop) (l : List Value) (t : TypeId) (i : Nat) (v : Value) (k : Obj → Prop) (h : i < l.length) (h1 : oneC v = true) :
    stV orig 1 (some (.cells l.toArray t (0, 0))) i [v] k = k (.cells (l.set i v).toArray t (0, 0)) := by
  rw [stV_cells orig 1 l.toArray t i [v] k rfl (by simp; omega) (by simp [h1])]
  simp only [List.length_cons, List.length_nil]
  rw [List.set_eq_take_append_cons_drop, if_pos h]
  simp
theorem encU8_len (v : Int) : (encU8 v).length = 1 := rfl
set_option maxHeartbeats 8000000 in
theorem whole_spec {N : Nat} {sv : Value} {ss : List Int} {w : World} {K : Value → World → Prop} (hN : N < 256) (h : SlOf 1 encU8 w sv ss) (hr : ∀ x ∈ ss, 0 ≤ x ∧ x < 256) (hl : ss.length ≤ 9223372036854775807)
    (hK : ∀ w', Fr [] w w' → K (.bool true) w') : CallsN Try.prog 8 [.int .u8 N, sv] w K := by
  have cw := cur w
  obtain ⟨sa, sc, hsv⟩ := h.form
  refine call8 ?_
  simp (maxSteps := 4000000) (disch := (first | assumption | exact List.not_mem_nil | ((repeat (first | assumption | apply cur_alloc | apply cur_setB | apply cur_drew | apply cur_drewN)); done) | omega | (simp only [gz, Value.cells, oneC]; first | done | omega) | ((simp only [List.mem_cons, List.not_mem_nil, or_false, gz]); omega) | rfl)) only [↓gsd, gs, ev, Nat.reduceAdd, Nat.reduceEqDiff, oneC, Value.cells, Option.isNone, gt, ↓hk8]
  refine fixedG fun w1 hf1 => ?_
  have cw1 := cur w1
  have hz1 := hf1.size
  simp (maxSteps := 4000000) (disch := (first | assumption | exact List.not_mem_nil | ((repeat (first | assumption | apply cur_alloc | apply cur_setB | apply cur_drew | apply cur_drewN)); done) | omega | (simp only [gz, Value.cells, oneC]; first | done | omega) | ((simp only [List.mem_cons, List.not_mem_nil, or_false, gz]); omega) | rfl)) only [↓gsd, gs, ev, Nat.reduceAdd, Nat.reduceEqDiff, oneC, Value.cells, Option.isNone, gt, ↓hk8]
  refine loop_intro (fun e w' => ∃ (i : Nat) (vo : Value), i ≤ N ∧ e 0 = .int .u8 N ∧ e 1 = sv ∧ e 5 = vo ∧ e 6 = .int .i64 i ∧ Own 1 2 w' vo i (ints (base i)) ∧ (∀ x, vo.ownBlock = some x → w1.heap.size ≤ x) ∧ Fr [] w1 w')
    (fun e _ => N - (numOf (e 6)).toNat) ?_ ?_
  · refine ⟨0, .slice none 0 0, Nat.zero_le _, ?_⟩
    simp (maxSteps := 4000000) (disch := (first | assumption | exact List.not_mem_nil | ((repeat (first | assumption | apply cur_alloc | apply cur_setB | apply cur_drew | apply cur_drewN)); done) | omega | (simp only [gz, Value.cells, oneC]; first | done | omega) | ((simp only [List.mem_cons, List.not_mem_nil, or_false, gz]); omega) | rfl)) only [↓gsd, gs, ev, Nat.reduceAdd, Nat.reduceEqDiff, oneC, Value.cells, Option.isNone, Int.natCast_zero]
    exact ⟨Own.nil, fun x hx => by simp [Value.ownBlock] at hx, Fr.refl _ _⟩
  · rintro e w2 k ⟨i, vo, hi, e0, e1, e5, e6, hown, hfresh, hf⟩ hk
    have cw2 := cur w2
    have hz2 := hf.size
    by_cases hil : i < N
    · have el : decide ((i : Int) < (N : Int)) = true := decide_eq_true (by omega)
      simp (maxSteps := 4000000) (disch := (first | assumption | exact List.not_mem_nil | ((repeat (first | assumption | apply cur_alloc | apply cur_setB | apply cur_drew | apply cur_drewN)); done) | omega | (simp only [gz, Value.cells, oneC]; first | done | omega) | ((simp only [List.mem_cons, List.not_mem_nil, or_false, gz]); omega) | rfl)) only [↓gsd, gs, ev, Nat.reduceAdd, Nat.reduceEqDiff, oneC, Value.cells, Option.isNone, gt, ↓hk8, e0, e1, e5, e6, el]
      generalize hW : World.alloc w2 _ = w3
      have hf3 : Fr [] w2 w3 := by rw [← hW]; (repeat (first | exact Fr.refl _ _ | assumption | with_reducible apply Fr.alloc | with_reducible apply Fr.drew | with_reducible refine Fr.setB ?_ _ _ (.inr (by first | omega | (simp only [gz]; omega))) | with_reducible refine Fr.setB ?_ _ _ (.inl (by first | assumption | simp)) | with_reducible refine Fr.trans' ?_ (by assumption)))
      have hz3 : w2.heap.size < w3.heap.size := by rw [← hW]; simp only [gz]; omega
      have hsl : Sl 1 w3 (.slice (some ⟨w2.heap.size, 0, none⟩) 1 1) 1 [.int .i64 ((i : Int) + 1)] := by rw [← hW]; exact ⟨rfl, .inr ⟨_, 0, 1, _, 2, (0, 0), rfl, get_alloc_new _ _, rfl⟩⟩
      clear hW
      obtain ⟨v4, w4, hr4, hown4, hf4, hbk⟩ := ap71 (ty := 71) (hown.fr (M := []) hf3 (by simp)) hsl rfl (by omega)
      have cw4 := cur w4
      have hz4 := hf4.size
      have hnb : ∀ y, y < w1.heap.size → y ∉ blkL vo := fun y hy hm => by
        unfold blkL at hm
        split at hm
        · rename_i g' hg'
          have := hfresh g' hg'
          simp at hm; omega
        · simp at hm
      simp (maxSteps := 4000000) (disch := (first | assumption | exact List.not_mem_nil | ((repeat (first | assumption | apply cur_alloc | apply cur_setB | apply cur_drew | apply cur_drewN)); done) | omega | (simp only [gz, Value.cells, oneC]; first | done | omega) | ((simp only [List.mem_cons, List.not_mem_nil, or_false, gz]); omega) | rfl)) only [↓gsd, gs, ev, Nat.reduceAdd, Nat.reduceEqDiff, oneC, Value.cells, Option.isNone, gt, ↓hk8, e0, e1, e5, e6, hr4]
      refine hk _ _ ⟨i + 1, v4, by omega, ?_⟩ ?_
      · simp (maxSteps := 4000000) (disch := (first | assumption | exact List.not_mem_nil | ((repeat (first | assumption | apply cur_alloc | apply cur_setB | apply cur_drew | apply cur_drewN)); done) | omega | (simp only [gz, Value.cells, oneC]; first | done | omega) | ((simp only [List.mem_cons, List.not_mem_nil, or_false, gz]); omega) | rfl)) only [↓gsd, gs, ev, Nat.reduceAdd, Nat.reduceEqDiff, oneC, Value.cells, Option.isNone, e0, e1, e5, e6, Int.natCast_add, Int.natCast_one]
        refine ⟨?_, fun y hy => ?_, (hf.trans' hf3).trans hf4 fun y hy => .inr (Nat.le_of_not_lt fun hlt => hnb y hlt hy)⟩
        · rw [base_succ]; simpa [ints] using hown4
        · rcases hbk with h1 | ⟨b', h1, h2⟩
          · exact hfresh y (h1 ▸ hy)
          · rw [h1] at hy; cases hy; omega
      · have e3 : ((i : Int) + 1).toNat = i + 1 := by omega
        simp (maxSteps := 4000000) (disch := (first | assumption | exact List.not_mem_nil | ((repeat (first | assumption | apply cur_alloc | apply cur_setB | apply cur_drew | apply cur_drewN)); done) | omega | (simp only [gz, Value.cells, oneC]; first | done | omega) | ((simp only [List.mem_cons, List.not_mem_nil, or_false, gz]); omega) | rfl)) only [↓gsd, gs, ev, Nat.reduceAdd, Nat.reduceEqDiff, oneC, Value.cells, Option.isNone, e6, numOf, Int.toNat_natCast, e3]; omega
    · have el : decide ((i : Int) < (N : Int)) = false := decide_eq_false (by omega)
      obtain rfl : i = N := by omega
      clear hk
      simp (maxSteps := 4000000) (disch := (first | assumption | exact List.not_mem_nil | ((repeat (first | assumption | apply cur_alloc | apply cur_setB | apply cur_drew | apply cur_drewN)); done) | omega | (simp only [gz, Value.cells, oneC]; first | done | omega) | ((simp only [List.mem_cons, List.not_mem_nil, or_false, gz]); omega) | rfl)) only [↓gsd, gs, ev, Nat.reduceAdd, Nat.reduceEqDiff, oneC, Value.cells, Option.isNone, gt, ↓hk8, e0, e1, e5, e6, el]
      have hf02 := hf1.trans' hf
      refine loop_intro (fun e w' => ∃ (j : Nat) (L : List Int), j ≤ ss.length ∧ e 0 = .int .u8 i ∧ e 1 = sv ∧ e 5 = vo ∧ e 7 = .int .i64 j ∧ Own 1 2 w' vo i (ints L) ∧ L.Perm (base i) ∧ Fr [] w1 w')
        (fun e _ => ss.length - (numOf (e 7)).toNat) ?_ ?_
      · refine ⟨0, base i, Nat.zero_le _, ?_⟩
        simp (maxSteps := 4000000) (disch := (first | assumption | exact List.not_mem_nil | ((repeat (first | assumption | apply cur_alloc | apply cur_setB | apply cur_drew | apply cur_drewN)); done) | omega | (simp only [gz, Value.cells, oneC]; first | done | omega) | ((simp only [List.mem_cons, List.not_mem_nil, or_false, gz]); omega) | rfl)) only [↓gsd, gs, ev, Nat.reduceAdd, Nat.reduceEqDiff, oneC, Value.cells, Option.isNone, e0, e1, e5, e6, Int.natCast_zero]
        exact ⟨hown, List.Perm.refl _, hf⟩
      · rintro e w3 k ⟨j, L, hj, e0, e1, e5, e7, hown3, hperm, hf3⟩ hk
        have cw3 := cur w3
        have hz3 := hf3.size
        have hlen : L.length = i := by rw [hperm.length_eq, base_len]
        have hso : SlOf 1 encI w3 vo L := by
          unfold SlOf
          rw [show cellsOf encI L = ints L from cellsOf_ints L, hlen]; exact hown3.sl
        obtain ⟨va, vc, hvo⟩ := hown3.sl.form
        by_cases hgo : j < ss.length ∧ 0 < i
        · obtain ⟨hjl, hi0⟩ := hgo
          have d1 : decide ((j : Int) < (ss.length : Int)) = true := decide_eq_true (by omega)
          have d2 : decide (0 < (i : Int)) = true := decide_eq_true (by omega)
          rcases hown3.2 with ⟨_, h0⟩ | ⟨g, cap, cur', hvg, _, hgb, hnc, hcm, hcs, htk⟩
          · omega
          have hgf := hfresh g (by rw [hvg]; rfl)
          obtain ⟨s, hs⟩ : ∃ s, ss[j]? = some s := ⟨ss[j], List.getElem?_eq_getElem hjl⟩
          obtain ⟨hs0, hs1⟩ := hr s (List.mem_of_getElem? hs)
          obtain ⟨X, hX⟩ : ∃ X : Nat, (X : Int) = s := ⟨s.toNat, by omega⟩
          have hs3 := h.frN (hf1.trans' hf3)
          obtain ⟨bb, off, cp, ob, hv1, hob, _, _, hcell⟩ := hs3.read encU8_len j s hs
          have hc0 := fun orig K => hcell 0 (.int .u8 s) orig K rfl
          simp only [Nat.add_zero, Nat.mul_one] at hc0
          have j0 : (0 : Int) ≤ (j : Int) := by omega
          have j1 : (j : Int) < (ss.length : Int) := by omega
          have hne : (i : Int) ≠ 0 := by omega
          obtain ⟨a, ha⟩ : ∃ a, a = X % i := ⟨_, rfl⟩
          obtain ⟨b, hb⟩ : ∃ b, b = j % i := ⟨_, rfl⟩
          have ha' : a < i := ha ▸ Nat.mod_lt _ hi0
          have hb' : b < i := hb ▸ Nat.mod_lt _ hi0
          have r1 : s.tmod (i : Int) = (a : Int) := by rw [← hX, ha]; exact (Int.ofNat_tmod X i).symm
          have r2 : (j : Int).tmod (i : Int) = (b : Int) := by rw [hb]; exact (Int.ofNat_tmod j i).symm
          have m1 : ∀ (x y : Operand) (w : World), (xbin .rem 3 x y (.int .i64 s) (.int .i64 i)).run Try.prog w = .ok (.int .i64 a) w := fun x y w => by rw [run_rem (h := hne), r1]
          have m2 : ∀ (x y : Operand) (w : World), (xbin .rem 3 x y (.int .i64 j) (.int .i64 i)).run Try.prog w = .ok (.int .i64 b) w := fun x y w => by rw [run_rem (h := hne), r2]
          simp (maxSteps := 4000000) (disch := (first | assumption | exact List.not_mem_nil | ((repeat (first | assumption | apply cur_alloc | apply cur_setB | apply cur_drew | apply cur_drewN)); done) | omega | (simp only [gz, Value.cells, oneC]; first | done | omega) | ((simp only [List.mem_cons, List.not_mem_nil, or_false, gz]); omega) | rfl)) only [↓gsd, gs, ev, Nat.reduceAdd, Nat.reduceEqDiff, oneC, Value.cells, Option.isNone, gt, ↓hk8, e0, e1, e5, e7, hv1, hvg, d1, d2, j0, j1, Int.toNat_natCast, Nat.mul_one, hob, hc0, m1, m2]
          obtain ⟨x, hx⟩ : ∃ x, L[a]? = some x := ⟨L[a], List.getElem?_eq_getElem (by omega)⟩
          obtain ⟨y, hy⟩ : ∃ y, L[b]? = some y := ⟨L[b], List.getElem?_eq_getElem (by omega)⟩
          obtain ⟨b1, o1, p1, ob1, hw1, hob1, _, _, hc1⟩ := hso.read (fun _ => rfl) a x hx
          obtain ⟨b2, o2, p2, ob2, hw2, hob2, _, _, hc2⟩ := hso.read (fun _ => rfl) b y hy
          rw [hvg] at hw1 hw2
          simp only [Value.slice.injEq, Option.some.injEq, Addr.mk.injEq] at hw1 hw2
          obtain ⟨⟨rfl, rfl, _⟩, _, _⟩ := hw1
          obtain ⟨⟨rfl, rfl, _⟩, _, _⟩ := hw2
          rw [hob1] at hob2
          cases hob2
          have q1 := fun orig K => hc1 0 (.int .i64 x) orig K rfl
          have q2 := fun orig K => hc2 0 (.int .i64 y) orig K rfl
          simp only [Nat.add_zero, Nat.mul_one, Nat.zero_add] at q1 q2
          have a0 : (0 : Int) ≤ (a : Int) := by omega
          have a1 : (a : Int) < (i : Int) := by omega
          have b0 : (0 : Int) ≤ (b : Int) := by omega
          have b1' : (b : Int) < (i : Int) := by omega
          obtain ⟨C, hC⟩ : ∃ C, C = cur'.toList := ⟨_, rfl⟩
          have hCl : C.length = cap := by rw [hC]; simpa using hcs
          have hob1' : ob1 = .cells C.toArray 2 (0, 0) := by
            rw [hob1] at hgb
            cases hgb
            rw [hC]
          have hgl := lt_of_get _ _ hob1
          refine draw_intro2 (w := w3.drew) (fun t => if t = 7 then [] else if t = 11 then [] else [g]) ?_
          simp (maxSteps := 4000000) (disch := (first | assumption | exact List.not_mem_nil | ((repeat (first | assumption | apply cur_alloc | apply cur_setB | apply cur_drew | apply cur_drewN)); done) | omega | (simp only [gz, Value.cells, oneC]; first | done | omega) | ((simp only [List.mem_cons, List.not_mem_nil, or_false, gz]); omega) | rfl)) only [↓gsd, gs, ev, Nat.reduceAdd, Nat.reduceEqDiff, oneC, Value.cells, Option.isNone, gt, ↓hk8, Fr_self, a0, a1, b0, b1', Int.toNat_natCast, Nat.mul_one, hob1, q1, q2]
          have hA : a < C.length := by omega
          have hB : b < (C.set a (.int .i64 y)).length := by rw [List.length_set]; omega
          rw [hob1', stV_set _ C _ _ _ _ hA rfl]
          have hF : Fr [g] w3.drew (w3.drew.setB g (.cells (C.set a (.int .i64 y)).toArray 2 (0, 0))) := by (repeat (first | exact Fr.refl _ _ | assumption | with_reducible apply Fr.alloc | with_reducible apply Fr.drew | with_reducible refine Fr.setB ?_ _ _ (.inr (by first | omega | (simp only [gz]; omega))) | with_reducible refine Fr.setB ?_ _ _ (.inl (by first | assumption | simp)) | with_reducible refine Fr.trans' ?_ (by assumption)))
          refine ⟨hF, hF, hF, hF, hF, hF, ?_⟩
          rw [stV_set _ (C.set a (.int .i64 y)) _ _ _ _ hB rfl]
          simp (maxSteps := 4000000) (disch := (first | assumption | exact List.not_mem_nil | ((repeat (first | assumption | apply cur_alloc | apply cur_setB | apply cur_drew | apply cur_drewN)); done) | omega | (simp only [gz, Value.cells, oneC]; first | done | omega) | ((simp only [List.mem_cons, List.not_mem_nil, or_false, gz]); omega) | rfl)) only [↓gsd, gs, ev, Nat.reduceAdd, Nat.reduceEqDiff, oneC, Value.cells, Option.isNone, gt, ↓hk8, e0, e1, e5, e7]
          refine hk _ _ ⟨j + 1, (L.set a y).set b x, by omega, ?_⟩ ?_
          · simp (maxSteps := 4000000) (disch := (first | assumption | exact List.not_mem_nil | ((repeat (first | assumption | apply cur_alloc | apply cur_setB | apply cur_drew | apply cur_drewN)); done) | omega | (simp only [gz, Value.cells, oneC]; first | done | omega) | ((simp only [List.mem_cons, List.not_mem_nil, or_false, gz]); omega) | rfl)) only [↓gsd, gs, ev, Nat.reduceAdd, Nat.reduceEqDiff, oneC, Value.cells, Option.isNone, e0, e1, e5, e7, hvg, Int.natCast_add, Int.natCast_one]
            refine ⟨⟨by simp; omega, .inr ⟨g, cap, ((C.set a (.int .i64 y)).set b (.int .i64 x)).toArray, rfl, Nat.zero_le _, ?_, hnc, hcm, by simp; omega, ?_⟩⟩, (swap_perm L a b x y hx hy).trans hperm, by (repeat (first | exact Fr.refl _ _ | assumption | with_reducible apply Fr.alloc | with_reducible apply Fr.drew | with_reducible refine Fr.setB ?_ _ _ (.inr (by first | omega | (simp only [gz]; omega))) | with_reducible refine Fr.setB ?_ _ _ (.inl (by first | assumption | simp)) | with_reducible refine Fr.trans' ?_ (by assumption)))⟩
            · simp (maxSteps := 4000000) (disch := (first | assumption | exact List.not_mem_nil | ((repeat (first | assumption | apply cur_alloc | apply cur_setB | apply cur_drew | apply cur_drewN)); done) | omega | (simp only [gz, Value.cells, oneC]; first | done | omega) | ((simp only [List.mem_cons, List.not_mem_nil, or_false, gz]); omega) | rfl)) only [↓gsd, gs, ev, Nat.reduceAdd, Nat.reduceEqDiff, oneC, Value.cells, Option.isNone]
            · rw [← hC] at htk
              simp only [Nat.mul_one] at htk ⊢
              show (((C.set a (.int .i64 y)).set b (.int .i64 x)).take i) = _
              rw [List.take_set, List.take_set, htk]
              simp [ints, List.map_set]
          · have e3 : ((j : Int) + 1).toNat = j + 1 := by omega
            simp (maxSteps := 4000000) (disch := (first | assumption | exact List.not_mem_nil | ((repeat (first | assumption | apply cur_alloc | apply cur_setB | apply cur_drew | apply cur_drewN)); done) | omega | (simp only [gz, Value.cells, oneC]; first | done | omega) | ((simp only [List.mem_cons, List.not_mem_nil, or_false, gz]); omega) | rfl)) only [↓gsd, gs, ev, Nat.reduceAdd, Nat.reduceEqDiff, oneC, Value.cells, Option.isNone, e7, numOf, Int.toNat_natCast, e3]; omega
        · have hend : ∀ e' : Env, e' 0 = .int .u8 i → e' 5 = vo → W2 Try.prog 113 V8 c8_5 (retQ Try.prog [.tmp 4] K) e' w3 := fun e' q0 q5 => wholeC hN q0 q5 hso hperm fun w' hf' => hK w' ((hf1.trans' hf3).trans' hf')
          by_cases hjl : j < ss.length
          · have d1 : decide ((j : Int) < (ss.length : Int)) = true := decide_eq_true (by omega)
            have d2 : decide (0 < (i : Int)) = false := decide_eq_false (by omega)
            simp (maxSteps := 4000000) (disch := (first | assumption | exact List.not_mem_nil | ((repeat (first | assumption | apply cur_alloc | apply cur_setB | apply cur_drew | apply cur_drewN)); done) | omega | (simp only [gz, Value.cells, oneC]; first | done | omega) | ((simp only [List.mem_cons, List.not_mem_nil, or_false, gz]); omega) | rfl)) only [↓gsd, gs, ev, Nat.reduceAdd, Nat.reduceEqDiff, oneC, Value.cells, Option.isNone, gt, ↓o8_0_eq, ↓o8_3_eq, ↓o8_14_eq, ↓o8_15_eq, ↓o8_28_eq, ↓c8_8_s, ↓o8_16_eq, ↓o8_18_eq, ↓c8_14_s, ↓o8_19_eq, ↓o8_22_eq, ↓o8_24_eq, ↓c8_23_s, ↓o8_25_eq, ↓o8_26_eq, ↓o8_27_eq, ↓c8_28_s, ↓c8_27_s, ↓c8_26_s, ↓c8_25_s, ↓c8_24_s, ↓c8_22_s, ↓o8_23_eq, ↓c8_30_s, ↓c8_29_s, ↓c8_21_s, ↓c8_20_s, ↓c8_19_s, ↓c8_18_s, ↓o8_20_eq, ↓o8_21_eq, ↓c8_33_s, ↓c8_32_s, ↓c8_31_s, ↓c8_17_s, ↓c8_16_s, ↓c8_15_s, ↓c8_13_s, ↓o8_17_eq, ↓c8_35_s, ↓c8_34_s, ↓c8_12_s, ↓c8_11_s, ↓c8_10_s, ↓c8_9_s, ↓c8_7_s, ↓c8_6_s, ↓o8_8_eq, ↓o8_10_eq, ↓c8_41_s, ↓o8_11_eq, ↓o8_12_eq, ↓o8_13_eq, ↓c8_45_s, ↓c8_44_s, ↓c8_43_s, ↓c8_42_s, ↓c8_40_s, ↓o8_9_eq, ↓c8_47_s, ↓c8_46_s, ↓c8_39_s, ↓c8_38_s, ↓c8_37_s, ↓c8_36_s, ↓c8_4_s, ↓o8_4_eq, ↓o8_6_eq, ↓c8_53_s, ↓o8_7_eq, ↓c8_55_s, ↓c8_54_s, ↓c8_52_s, ↓o8_5_eq, ↓c8_57_s, ↓c8_56_s, ↓c8_51_s, ↓c8_50_s, ↓c8_49_s, ↓c8_48_s, ↓c8_3_s, ↓c8_2_s, ↓o8_1_eq, ↓o8_2_eq, ↓c8_60_s, ↓c8_59_s, ↓c8_58_s, ↓c8_1_s, ↓c8_s, e0, e1, e5, e7, hsv, hvo, d1, d2]
            exact hend _ (by simp (maxSteps := 4000000) (disch := (first | assumption | exact List.not_mem_nil | ((repeat (first | assumption | apply cur_alloc | apply cur_setB | apply cur_drew | apply cur_drewN)); done) | omega | (simp only [gz, Value.cells, oneC]; first | done | omega) | ((simp only [List.mem_cons, List.not_mem_nil, or_false, gz]); omega) | rfl)) only [↓gsd, gs, ev, Nat.reduceAdd, Nat.reduceEqDiff, oneC, Value.cells, Option.isNone, e0]) (by simp (maxSteps := 4000000) (disch := (first | assumption | exact List.not_mem_nil | ((repeat (first | assumption | apply cur_alloc | apply cur_setB | apply cur_drew | apply cur_drewN)); done) | omega | (simp only [gz, Value.cells, oneC]; first | done | omega) | ((simp only [List.mem_cons, List.not_mem_nil, or_false, gz]); omega) | rfl)) only [↓gsd, gs, ev, Nat.reduceAdd, Nat.reduceEqDiff, oneC, Value.cells, Option.isNone, e5, hvo])
          · have d1 : decide ((j : Int) < (ss.length : Int)) = false := decide_eq_false (by omega)
            simp (maxSteps := 4000000) (disch := (first | assumption | exact List.not_mem_nil | ((repeat (first | assumption | apply cur_alloc | apply cur_setB | apply cur_drew | apply cur_drewN)); done) | omega | (simp only [gz, Value.cells, oneC]; first | done | omega) | ((simp only [List.mem_cons, List.not_mem_nil, or_false, gz]); omega) | rfl)) only [↓gsd, gs, ev, Nat.reduceAdd, Nat.reduceEqDiff, oneC, Value.cells, Option.isNone, gt, ↓o8_0_eq, ↓o8_3_eq, ↓o8_14_eq, ↓o8_15_eq, ↓o8_28_eq, ↓c8_8_s, ↓o8_16_eq, ↓o8_18_eq, ↓c8_14_s, ↓o8_19_eq, ↓o8_22_eq, ↓o8_24_eq, ↓c8_23_s, ↓o8_25_eq, ↓o8_26_eq, ↓o8_27_eq, ↓c8_28_s, ↓c8_27_s, ↓c8_26_s, ↓c8_25_s, ↓c8_24_s, ↓c8_22_s, ↓o8_23_eq, ↓c8_30_s, ↓c8_29_s, ↓c8_21_s, ↓c8_20_s, ↓c8_19_s, ↓c8_18_s, ↓o8_20_eq, ↓o8_21_eq, ↓c8_33_s, ↓c8_32_s, ↓c8_31_s, ↓c8_17_s, ↓c8_16_s, ↓c8_15_s, ↓c8_13_s, ↓o8_17_eq, ↓c8_35_s, ↓c8_34_s, ↓c8_12_s, ↓c8_11_s, ↓c8_10_s, ↓c8_9_s, ↓c8_7_s, ↓c8_6_s, ↓o8_8_eq, ↓o8_10_eq, ↓c8_41_s, ↓o8_11_eq, ↓o8_12_eq, ↓o8_13_eq, ↓c8_45_s, ↓c8_44_s, ↓c8_43_s, ↓c8_42_s, ↓c8_40_s, ↓o8_9_eq, ↓c8_47_s, ↓c8_46_s, ↓c8_39_s, ↓c8_38_s, ↓c8_37_s, ↓c8_36_s, ↓c8_4_s, ↓o8_4_eq, ↓o8_6_eq, ↓c8_53_s, ↓o8_7_eq, ↓c8_55_s, ↓c8_54_s, ↓c8_52_s, ↓o8_5_eq, ↓c8_57_s, ↓c8_56_s, ↓c8_51_s, ↓c8_50_s, ↓c8_49_s, ↓c8_48_s, ↓c8_3_s, ↓c8_2_s, ↓o8_1_eq, ↓o8_2_eq, ↓c8_60_s, ↓c8_59_s, ↓c8_58_s, ↓c8_1_s, ↓c8_s, e0, e1, e5, e7, hsv, hvo, d1]
            exact hend _ (by simp (maxSteps := 4000000) (disch := (first | assumption | exact List.not_mem_nil | ((repeat (first | assumption | apply cur_alloc | apply cur_setB | apply cur_drew | apply cur_drewN)); done) | omega | (simp only [gz, Value.cells, oneC]; first | done | omega) | ((simp only [List.mem_cons, List.not_mem_nil, or_false, gz]); omega) | rfl)) only [↓gsd, gs, ev, Nat.reduceAdd, Nat.reduceEqDiff, oneC, Value.cells, Option.isNone, e0]) (by simp (maxSteps := 4000000) (disch := (first | assumption | exact List.not_mem_nil | ((repeat (first | assumption | apply cur_alloc | apply cur_setB | apply cur_drew | apply cur_drewN)); done) | omega | (simp only [gz, Value.cells, oneC]; first | done | omega) | ((simp only [List.mem_cons, List.not_mem_nil, or_false, gz]); omega) | rfl)) only [↓gsd, gs, ev, Nat.reduceAdd, Nat.reduceEqDiff, oneC, Value.cells, Option.isNone, e5, hvo])
end Go.Proofs.Ytenokheiindfkaa
