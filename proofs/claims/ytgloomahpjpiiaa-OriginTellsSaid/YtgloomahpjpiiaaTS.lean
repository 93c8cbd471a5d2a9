/- OriginTells walked. -/
import Derived.Test.YtgloomahpjpiiaaTR
set_option linter.unusedVariables false
set_option linter.unusedSimpArgs false
set_option maxRecDepth 10000
namespace Go.Proofs.Ytgloomahpjpiiaa.Or
open Go.VW
set_option maxHeartbeats 64000000 in
theorem tells_rest {w0 w : World} {a : Ad} {o : Ori} {Wr Rd : List Nat} {R R' : Nat → Prop} {vo : Value} {outs : List Ans} {key : ByteArray} {lo hi : Int} {pb : Nat} {e : Env} {K : Value → World → Prop} (hR : Ran w0 w a o Wr Rd) (hA : AnsAt w R R' vo outs)
    (g5 : w.heap[pb]? = some (.cells ([.int .i64 lo, .int .i64 hi] : List Value).toArray 33 (0, 0))) (hlo : 0 ≤ lo ∧ lo < 256) (hhi : 0 ≤ hi ∧ hi < 256)
    (hcs : (¬ (1 ≤ key.size ∧ key.size ≤ 32 ∧ lo < hi) ∧ outs = []) ∨ ((1 ≤ key.size ∧ key.size ≤ 32 ∧ lo < hi) ∧ ((∃ er, er ≠ 0 ∧ outs = [errA er] ∧ ((er = 21 ∧ o.st.last < lo) ∨ (er = 20 ∧ min (hi - 1) o.st.last < o.st.oldest key))) ∨
      ∃ has data flo fhi t node, outs = [toldA has data flo t, fillA node key has data flo fhi o.st.last] ∧ flo < t ∧ max flo lo < min t hi ∧ t ≤ o.st.last + 1 ∧
        ∀ c, max flo (o.st.oldest key) ≤ c → c < t → (o.st.read key c).2 = 0 ∧ (o.st.read key c).1.has = has ∧ (o.st.read key c).1.data = data)))
    (e1 : e 1 = .string key) (e2 : e 2 = .int .u8 lo) (e3 : e 3 = .int .u8 hi) (e9 : e 9 = .pointer (some ⟨a.ob, 0, none⟩)) (e11 : e 11 = .pointer (some ⟨pb, 0, none⟩)) (e12 : e 12 = vo) (hK : ∀ w', Fr [] w0 w' → K (.bool true) w') :
    W3 Try.prog 229 V4 c4_6 (retQ Try.prog [ResultVar.tmp 8] K) e w := by
  have cw := cur w
  have hwf := hR.at_.wf
  have n0 : ((0 : Nat) : Int) = 0 := rfl
  have n1 : ((1 : Nat) : Int) = 1 := rfl
  have n2 : ((2 : Nat) : Int) = 2 := rfl
  have t0 : (0 : Int).toNat = 0 := rfl
  have t1 : (1 : Int).toNat = 1 := rfl
  have z0 : (0 : Int) ≤ 0 := by decide
  have z00 : (0 : Int) ≤ 1 := by decide
  have z1 : (0 : Int) < 1 := by decide
  have z2 : (0 : Int) < 2 := by decide
  have z3 : (1 : Int) < 2 := by decide
  have d10 : decide ((1 : Int) = 0) = false := rfl
  have d20 : decide ((2 : Int) = 0) = false := rfl
  rcases hcs with ⟨hn, rfl⟩ | ⟨⟨q1, q2, q3⟩, hcs⟩
  · obtain ⟨va, vc, hvo⟩ := hA.form
    by_cases c1 : (key.size : Int) < 1
    · have d1 : decide ((key.size : Int) < 1) = true := decide_eq_true c1
      simp (maxSteps:=4000000)(disch:=first|assumption|(simp only[dz,Value.cells,oneC];first|done|assumption|omega)|omega|(repeat(first|assumption|exact Fr.refl _ _|with_reducible apply Fr.alloc|with_reducible apply Fr.drew);done)|rfl) only [↓gsd, gs, ev, Nat.reduceAdd, Nat.reduceEqDiff, oneC, Value.cells, Option.isNone, gt, ↓stays_f, ↓stays_fr, stays_xv, true_or, or_true, frT_self, frT_drew, frT_drew0, frT_alloc, ↓hk4, e1, e2, e3, e12, hvo, d1, List.length_nil, n0]
      exact hK _ hR.fr
    have d1 : decide ((key.size : Int) < 1) = false := decide_eq_false c1
    by_cases c2 : 32 < (key.size : Int)
    · have d2 : decide (32 < (key.size : Int)) = true := decide_eq_true c2
      simp (maxSteps:=4000000)(disch:=first|assumption|(simp only[dz,Value.cells,oneC];first|done|assumption|omega)|omega|(repeat(first|assumption|exact Fr.refl _ _|with_reducible apply Fr.alloc|with_reducible apply Fr.drew);done)|rfl) only [↓gsd, gs, ev, Nat.reduceAdd, Nat.reduceEqDiff, oneC, Value.cells, Option.isNone, gt, ↓stays_f, ↓stays_fr, stays_xv, true_or, or_true, frT_self, frT_drew, frT_drew0, frT_alloc, ↓hk4, e1, e2, e3, e12, hvo, d1, d2, List.length_nil, n0]
      exact hK _ hR.fr
    have d2 : decide (32 < (key.size : Int)) = false := decide_eq_false c2
    have d3 : decide (hi ≤ lo) = true := decide_eq_true (by omega)
    simp (maxSteps:=4000000)(disch:=first|assumption|(simp only[dz,Value.cells,oneC];first|done|assumption|omega)|omega|(repeat(first|assumption|exact Fr.refl _ _|with_reducible apply Fr.alloc|with_reducible apply Fr.drew);done)|rfl) only [↓gsd, gs, ev, Nat.reduceAdd, Nat.reduceEqDiff, oneC, Value.cells, Option.isNone, gt, ↓stays_f, ↓stays_fr, stays_xv, true_or, or_true, frT_self, frT_drew, frT_drew0, frT_alloc, ↓hk4, e1, e2, e3, e12, hvo, d1, d2, d3, List.length_nil, n0]
    exact hK _ hR.fr
  have d1 : decide ((key.size : Int) < 1) = false := decide_eq_false (by omega)
  have d2 : decide (32 < (key.size : Int)) = false := decide_eq_false (by omega)
  have d3 : decide (hi ≤ lo) = false := decide_eq_false (by omega)
  rcases hcs with ⟨er, her, rfl, hor⟩ | ⟨has, data, flo, fhi, t, node, rfl, h1, h2, h3, h4⟩
  · obtain ⟨m', bb, off, cap, obx, ia, hvo, hob', ltb, rw', rr⟩ := hA.read 0 _ rfl
    have enc := err_enc ia
    have r0 := fun orig K => rr 0 (.int .i64 6) orig K (by rw [enc]; rfl)
    have r4 := fun orig K => rr 4 (.int .i64 1) orig K (by rw [enc]; rfl)
    have r5 := fun orig K => rr 5 (.int .i64 9) orig K (by rw [enc]; rfl)
    rw [enc] at rw'
    simp only [Nat.zero_mul, Nat.add_zero] at r0 r4 r5 rw'
    simp only [List.length_cons, List.length_nil, Nat.zero_add] at hvo
    have de : decide (er = 0) = false := decide_eq_false her
    simp (maxSteps:=4000000)(disch:=first|assumption|(simp only[dz,Value.cells,oneC];first|done|assumption|omega)|omega|(repeat(first|assumption|exact Fr.refl _ _|with_reducible apply Fr.alloc|with_reducible apply Fr.drew);done)|rfl) only [↓gsd, gs, ev, Nat.reduceAdd, Nat.reduceEqDiff, oneC, Value.cells, Option.isNone, gt, ↓stays_f, ↓stays_fr, stays_xv, true_or, or_true, frT_self, frT_drew, frT_drew0, frT_alloc, ↓c4_13_s, ↓c4_19_s, ↓c4_24_s, ↓c4_23_s, ↓c4_22_s, ↓c4_21_s, ↓c4_20_s, ↓c4_18_s, ↓c4_26_s, ↓c4_25_s, ↓c4_17_s, ↓c4_16_s, ↓c4_15_s, ↓c4_14_s, ↓c4_12_s, ↓c4_29_s, ↓c4_28_s, ↓c4_27_s, ↓c4_11_s, ↓c4_32_s, ↓c4_31_s, ↓c4_30_s, ↓c4_10_s, ↓c4_35_s, ↓c4_34_s, ↓c4_33_s, ↓c4_8_s, ↓c4_38_s, ↓c4_37_s, ↓c4_36_s, ↓c4_7_s, ↓c4_41_s, ↓c4_40_s, ↓c4_39_s, ↓c4_6_s, ↓c4_5_s, ↓c4_4_s, ↓c4_47_s, ↓c4_49_s, ↓c4_48_s, ↓c4_46_s, ↓c4_51_s, ↓c4_50_s, ↓c4_45_s, ↓c4_44_s, ↓c4_43_s, ↓c4_42_s, ↓c4_3_s, ↓c4_2_s, ↓c4_54_s, ↓c4_53_s, ↓c4_52_s, ↓c4_1_s, ↓c4_s, ↓w3t_4, e1, e2, e3, e12, hvo, d1, d2, d3, n0, n1, n2, t0, z0, z1, d10, Nat.zero_mul, Nat.add_zero, hob', r0, r4, r5, rw']
    generalize hW : World.alloc w _ = w1
    have hf1 : Fr [] w w1 := by rw [← hW]; (repeat (first | exact Fr.refl _ _ | assumption | with_reducible apply Fr.alloc | with_reducible apply Fr.drew | with_reducible refine Fr.setB ?_ _ _ (.inr (by first | omega | (simp only [gz]; omega))) | with_reducible refine Fr.setB ?_ _ _ (.inl (by first | assumption | simp)) | with_reducible refine Fr.trans' ?_ (by assumption)))
    obtain ⟨b1, hb1⟩ : ∃ b1, b1 = w.heap.size := ⟨_, rfl⟩
    rw [← hb1]
    have g1 : w1.heap[b1]? = some (.cells ([.int .i64 6, .int .i64 0, .int .i64 0, .int .i64 0, .int .i64 1, .int .i64 9, .string ⟨#[]⟩, .int .i64 0, .int .i64 0, .bool false, .string ⟨#[]⟩, .bool false, .int .i64 er, .int .i64 0, .slice none 0 0, .slice m'.ka m'.kl m'.kc] : List Value).toArray 40 (0, 0)) := by rw [← hW, hb1]; exact get_alloc_new _ _
    clear hW
    have cw1 := cur w1
    have g51 := hf1.getN g5
    have hR1 := hR.frN hf1
    rcases hor with ⟨rfl, hl⟩ | ⟨rfl, hl⟩
    · have dl : decide (o.st.last < lo) = true := decide_eq_true hl
      have da : decide ((21 : Int) = 0) = false := rfl
      simp (maxSteps:=4000000)(disch:=first|assumption|(simp only[dz,Value.cells,oneC];first|done|assumption|omega)|omega|(repeat(first|assumption|exact Fr.refl _ _|with_reducible apply Fr.alloc|with_reducible apply Fr.drew);done)|rfl) only [↓gsd, gs, ev, Nat.reduceAdd, Nat.reduceEqDiff, oneC, Value.cells, Option.isNone, gt, ↓stays_f, ↓stays_fr, stays_xv, true_or, or_true, frT_self, frT_drew, frT_drew0, frT_alloc, ↓hk4, e1, e2, e3, e9, e11, e12, hvo, g1, g51, da, n1]
      refine last_o (hR1.at_.frN (by (repeat (first | exact Fr.refl _ _ | assumption | with_reducible apply Fr.alloc | with_reducible apply Fr.drew | with_reducible refine Fr.setB ?_ _ _ (.inr (by first | omega | (simp only [gz]; omega))) | with_reducible refine Fr.setB ?_ _ _ (.inl (by first | assumption | simp)) | with_reducible refine Fr.trans' ?_ (by assumption))))) ?_
      simp (maxSteps:=4000000)(disch:=first|assumption|(simp only[dz,Value.cells,oneC];first|done|assumption|omega)|omega|(repeat(first|assumption|exact Fr.refl _ _|with_reducible apply Fr.alloc|with_reducible apply Fr.drew);done)|rfl) only [↓gsd, gs, ev, Nat.reduceAdd, Nat.reduceEqDiff, oneC, Value.cells, Option.isNone, gt, ↓stays_f, ↓stays_fr, stays_xv, true_or, or_true, frT_self, frT_drew, frT_drew0, frT_alloc, ↓hk4, e1, e2, e3, e9, e11, e12, hvo, g1, g51, dl, n1]
      exact hK _ (hR1.frN (by (repeat (first | exact Fr.refl _ _ | assumption | with_reducible apply Fr.alloc | with_reducible apply Fr.drew | with_reducible refine Fr.setB ?_ _ _ (.inr (by first | omega | (simp only [gz]; omega))) | with_reducible refine Fr.setB ?_ _ _ (.inl (by first | assumption | simp)) | with_reducible refine Fr.trans' ?_ (by assumption))))).fr
    · have dl : decide (min (hi - 1) o.st.last < o.st.oldest key) = true := decide_eq_true hl
      have da : decide ((20 : Int) = 0) = false := rfl
      have db : decide ((20 : Int) = 21) = false := rfl
      have wh : IntKind.i64.wrap (hi - 1) = hi - 1 := wrap64 (by omega) (by omega)
      simp (maxSteps:=4000000)(disch:=first|assumption|(simp only[dz,Value.cells,oneC];first|done|assumption|omega)|omega|(repeat(first|assumption|exact Fr.refl _ _|with_reducible apply Fr.alloc|with_reducible apply Fr.drew);done)|rfl) only [↓gsd, gs, ev, Nat.reduceAdd, Nat.reduceEqDiff, oneC, Value.cells, Option.isNone, gt, ↓stays_f, ↓stays_fr, stays_xv, true_or, or_true, frT_self, frT_drew, frT_drew0, frT_alloc, ↓hk4, e1, e2, e3, e9, e11, e12, hvo, g1, g51, da, db, n1, wh, stays_minT, takeP_min]
      refine last_o (hR1.at_.frN (by (repeat (first | exact Fr.refl _ _ | assumption | with_reducible apply Fr.alloc | with_reducible apply Fr.drew | with_reducible refine Fr.setB ?_ _ _ (.inr (by first | omega | (simp only [gz]; omega))) | with_reducible refine Fr.setB ?_ _ _ (.inl (by first | assumption | simp)) | with_reducible refine Fr.trans' ?_ (by assumption))))) ?_
      simp (maxSteps:=4000000)(disch:=first|assumption|(simp only[dz,Value.cells,oneC];first|done|assumption|omega)|omega|(repeat(first|assumption|exact Fr.refl _ _|with_reducible apply Fr.alloc|with_reducible apply Fr.drew);done)|rfl) only [↓gsd, gs, ev, Nat.reduceAdd, Nat.reduceEqDiff, oneC, Value.cells, Option.isNone, gt, ↓stays_f, ↓stays_fr, stays_xv, true_or, or_true, frT_self, frT_drew, frT_drew0, frT_alloc, ↓hk4, e1, e2, e3, e9, e11, e12, hvo, g1, g51, da, db, n1, wh, stays_minT, takeP_min]
      refine oldest_o (hR1.at_.frN (by (repeat (first | exact Fr.refl _ _ | assumption | with_reducible apply Fr.alloc | with_reducible apply Fr.drew | with_reducible refine Fr.setB ?_ _ _ (.inr (by first | omega | (simp only [gz]; omega))) | with_reducible refine Fr.setB ?_ _ _ (.inl (by first | assumption | simp)) | with_reducible refine Fr.trans' ?_ (by assumption))))) ?_
      simp (maxSteps:=4000000)(disch:=first|assumption|(simp only[dz,Value.cells,oneC];first|done|assumption|omega)|omega|(repeat(first|assumption|exact Fr.refl _ _|with_reducible apply Fr.alloc|with_reducible apply Fr.drew);done)|rfl) only [↓gsd, gs, ev, Nat.reduceAdd, Nat.reduceEqDiff, oneC, Value.cells, Option.isNone, gt, ↓stays_f, ↓stays_fr, stays_xv, true_or, or_true, frT_self, frT_drew, frT_drew0, frT_alloc, ↓hk4, e1, e2, e3, e9, e11, e12, hvo, g1, g51, dl, n1, wh, stays_minT, takeP_min]
      exact hK _ (hR1.frN (by (repeat (first | exact Fr.refl _ _ | assumption | with_reducible apply Fr.alloc | with_reducible apply Fr.drew | with_reducible refine Fr.setB ?_ _ _ (.inr (by first | omega | (simp only [gz]; omega))) | with_reducible refine Fr.setB ?_ _ _ (.inl (by first | assumption | simp)) | with_reducible refine Fr.trans' ?_ (by assumption))))).fr
  · obtain ⟨m', bb, off, cap, obx, ia, hvo, hob', ltb, rw', rr⟩ := hA.read 0 _ rfl
    obtain ⟨m2, bb2, off2, cap2, obx2, ia2, hvo2, hob2, ltb2, rw2, rr2, rp2⟩ := hA.read2 1 _ rfl
    have enc := told_enc ia
    have enc2 := fill_enc ia2
    have r0 := fun orig K => rr 0 (.int .i64 6) orig K (by rw [enc]; rfl)
    have r4 := fun orig K => rr 4 (.int .i64 1) orig K (by rw [enc]; rfl)
    have r5 := fun orig K => rr 5 (.int .i64 9) orig K (by rw [enc]; rfl)
    rw [enc] at rw'
    simp only [List.length_cons, List.length_nil, Nat.zero_add, Nat.reduceAdd] at hvo hvo2
    have hx := hvo2
    rw [hvo] at hx
    simp only [Value.slice.injEq, Option.some.injEq, Addr.mk.injEq, and_true, true_and] at hx
    obtain ⟨⟨x1, x2⟩, x3⟩ := hx
    subst x1 x2 x3
    rw [hob'] at hob2
    cases hob2
    have s0 := fun orig K => rr2 0 (.int .i64 7) orig K (by rw [enc2]; rfl)
    have s6 := fun orig K => rr2 6 (.string key) orig K (by rw [enc2]; rfl)
    have s7 := fun orig K => rr2 7 (.int .i64 flo) orig K (by rw [enc2]; rfl)
    have s9 := fun orig K => rp2 9 (.bool has) (.string data) orig K (by rw [enc2]; rfl) (by rw [enc2]; rfl)
    have s13 := fun orig K => rr2 13 (.int .i64 o.st.last) orig K (by rw [enc2]; rfl)
    simp only [Nat.zero_mul, Nat.one_mul, Nat.add_zero, Nat.add_assoc, Nat.reduceAdd] at r0 r4 r5 rw' s0 s6 s7 s9 s13
    have de : decide ((0 : Int) = 0) = true := rfl
    simp (maxSteps:=4000000)(disch:=first|assumption|(simp only[dz,Value.cells,oneC];first|done|assumption|omega)|omega|(repeat(first|assumption|exact Fr.refl _ _|with_reducible apply Fr.alloc|with_reducible apply Fr.drew);done)|rfl) only [↓gsd, gs, ev, Nat.reduceAdd, Nat.reduceEqDiff, oneC, Value.cells, Option.isNone, gt, ↓stays_f, ↓stays_fr, stays_xv, true_or, or_true, frT_self, frT_drew, frT_drew0, frT_alloc, ↓c4_13_s, ↓c4_19_s, ↓c4_24_s, ↓c4_23_s, ↓c4_22_s, ↓c4_21_s, ↓c4_20_s, ↓c4_18_s, ↓c4_26_s, ↓c4_25_s, ↓c4_17_s, ↓c4_16_s, ↓c4_15_s, ↓c4_14_s, ↓c4_12_s, ↓c4_29_s, ↓c4_28_s, ↓c4_27_s, ↓c4_11_s, ↓c4_32_s, ↓c4_31_s, ↓c4_30_s, ↓c4_10_s, ↓c4_35_s, ↓c4_34_s, ↓c4_33_s, ↓c4_8_s, ↓c4_38_s, ↓c4_37_s, ↓c4_36_s, ↓c4_7_s, ↓c4_41_s, ↓c4_40_s, ↓c4_39_s, ↓c4_6_s, ↓c4_5_s, ↓c4_4_s, ↓c4_47_s, ↓c4_49_s, ↓c4_48_s, ↓c4_46_s, ↓c4_51_s, ↓c4_50_s, ↓c4_45_s, ↓c4_44_s, ↓c4_43_s, ↓c4_42_s, ↓c4_3_s, ↓c4_2_s, ↓c4_54_s, ↓c4_53_s, ↓c4_52_s, ↓c4_1_s, ↓c4_s, ↓w3t_4, e1, e2, e3, e12, hvo, d1, d2, d3, n0, n1, n2, t0, z0, z1, z2, d20, Nat.zero_mul, Nat.add_zero, hob', r0, r4, r5, rw']
    generalize hW : World.alloc w _ = w1
    have hf1 : Fr [] w w1 := by rw [← hW]; (repeat (first | exact Fr.refl _ _ | assumption | with_reducible apply Fr.alloc | with_reducible apply Fr.drew | with_reducible refine Fr.setB ?_ _ _ (.inr (by first | omega | (simp only [gz]; omega))) | with_reducible refine Fr.setB ?_ _ _ (.inl (by first | assumption | simp)) | with_reducible refine Fr.trans' ?_ (by assumption)))
    obtain ⟨b1, hb1⟩ : ∃ b1, b1 = w.heap.size := ⟨_, rfl⟩
    rw [← hb1]
    have g1 : w1.heap[b1]? = some (.cells ([.int .i64 6, .int .i64 0, .int .i64 0, .int .i64 0, .int .i64 1, .int .i64 9, .string ⟨#[]⟩, .int .i64 flo, .int .i64 t, .bool has, .string data, .bool false, .int .i64 0, .int .i64 0, .slice none 0 0, .slice m'.ka m'.kl m'.kc] : List Value).toArray 40 (0, 0)) := by rw [← hW, hb1]; exact get_alloc_new _ _
    clear hW
    have cw1 := cur w1
    have g51 := hf1.getN g5
    have hR1 := hR.frN hf1
    have hob1 := hf1.getN hob'
    simp (maxSteps:=4000000)(disch:=first|assumption|(simp only[dz,Value.cells,oneC];first|done|assumption|omega)|omega|(repeat(first|assumption|exact Fr.refl _ _|with_reducible apply Fr.alloc|with_reducible apply Fr.drew);done)|rfl) only [↓gsd, gs, ev, Nat.reduceAdd, Nat.reduceEqDiff, oneC, Value.cells, Option.isNone, gt, ↓stays_f, ↓stays_fr, stays_xv, true_or, or_true, frT_self, frT_drew, frT_drew0, frT_alloc, ↓hk4, e1, e2, e3, e9, e11, e12, hvo, g1, g51, n1, n2, t1, z00, z3, Nat.one_mul, hob1, s0, s6, s7, s9, s13]
    have e1t : decide (t ≤ flo) = false := decide_eq_false (by omega)
    have e2t : decide (min t hi ≤ max flo lo) = false := decide_eq_false (by omega)
    have e3t : decide (o.st.last + 1 < t) = false := decide_eq_false (by omega)
    have l0 := hwf.l0
    have l1 := hwf.l1
    have wl : IntKind.i64.wrap (o.st.last + 1) = o.st.last + 1 := wrap64 (by omega) (by omega)
    refine last_o (hR1.at_.frN (by (repeat (first | exact Fr.refl _ _ | assumption | with_reducible apply Fr.alloc | with_reducible apply Fr.drew | with_reducible refine Fr.setB ?_ _ _ (.inr (by first | omega | (simp only [gz]; omega))) | with_reducible refine Fr.setB ?_ _ _ (.inl (by first | assumption | simp)) | with_reducible refine Fr.trans' ?_ (by assumption))))) ?_
    simp (maxSteps:=4000000)(disch:=first|assumption|(simp only[dz,Value.cells,oneC];first|done|assumption|omega)|omega|(repeat(first|assumption|exact Fr.refl _ _|with_reducible apply Fr.alloc|with_reducible apply Fr.drew);done)|rfl) only [↓gsd, gs, ev, Nat.reduceAdd, Nat.reduceEqDiff, oneC, Value.cells, Option.isNone, gt, ↓stays_f, ↓stays_fr, stays_xv, true_or, or_true, frT_self, frT_drew, frT_drew0, frT_alloc, ↓hk4, e1, e2, e3, e9, e11, e12, hvo, g1, g51, n1, n2, t1, z00, z3, Nat.one_mul, hob1, s0, s6, s7, s9, s13, e1t, e2t, e3t, wl, takeP_min, takeP_max, stays_minT, stays_maxT]
    refine last_o (hR1.at_.frN (by (repeat (first | exact Fr.refl _ _ | assumption | with_reducible apply Fr.alloc | with_reducible apply Fr.drew | with_reducible refine Fr.setB ?_ _ _ (.inr (by first | omega | (simp only [gz]; omega))) | with_reducible refine Fr.setB ?_ _ _ (.inl (by first | assumption | simp)) | with_reducible refine Fr.trans' ?_ (by assumption))))) ?_
    simp (maxSteps:=4000000)(disch:=first|assumption|(simp only[dz,Value.cells,oneC];first|done|assumption|omega)|omega|(repeat(first|assumption|exact Fr.refl _ _|with_reducible apply Fr.alloc|with_reducible apply Fr.drew);done)|rfl) only [↓gsd, gs, ev, Nat.reduceAdd, Nat.reduceEqDiff, oneC, Value.cells, Option.isNone, gt, ↓stays_f, ↓stays_fr, stays_xv, true_or, or_true, frT_self, frT_drew, frT_drew0, frT_alloc, ↓hk4, e1, e2, e3, e9, e11, e12, hvo, g1, g51, n1, n2, t1, z00, z3, Nat.one_mul, hob1, s0, s6, s7, s9, s13, e1t, e2t, e3t, wl, takeP_min, takeP_max, stays_minT, stays_maxT]
    refine oldest_o (hR1.at_.frN (by (repeat (first | exact Fr.refl _ _ | assumption | with_reducible apply Fr.alloc | with_reducible apply Fr.drew | with_reducible refine Fr.setB ?_ _ _ (.inr (by first | omega | (simp only [gz]; omega))) | with_reducible refine Fr.setB ?_ _ _ (.inl (by first | assumption | simp)) | with_reducible refine Fr.trans' ?_ (by assumption))))) ?_
    simp (maxSteps:=4000000)(disch:=first|assumption|(simp only[dz,Value.cells,oneC];first|done|assumption|omega)|omega|(repeat(first|assumption|exact Fr.refl _ _|with_reducible apply Fr.alloc|with_reducible apply Fr.drew);done)|rfl) only [↓gsd, gs, ev, Nat.reduceAdd, Nat.reduceEqDiff, oneC, Value.cells, Option.isNone, gt, ↓stays_f, ↓stays_fr, stays_xv, true_or, or_true, frT_self, frT_drew, frT_drew0, frT_alloc, ↓hk4, e1, e2, e3, e9, e11, e12, hvo, g1, g51, n1, n2, t1, z00, z3, Nat.one_mul, hob1, s0, s6, s7, s9, s13, e1t, e2t, e3t, wl, takeP_min, takeP_max, stays_minT, stays_maxT]
    have hon := oldest_nn hwf key
    obtain ⟨c0, hc0⟩ : ∃ c0 : Nat, (c0 : Int) = max flo (o.st.oldest key) := ⟨(max flo (o.st.oldest key)).toNat, by omega⟩
    rw [← hc0]
    refine for_intro (max c0 t.toNat) 14 c0 (fun i e w' => e 1 = .string key ∧ e 9 = .pointer (some ⟨a.ob, 0, none⟩) ∧ e 13 = .pointer (some ⟨b1, 0, none⟩) ∧ c0 ≤ i ∧ Fr [] w1 w') ?_ (Nat.le_max_left _ _) ?_ ?_
    · simp (maxSteps:=4000000)(disch:=first|assumption|(simp only[dz,Value.cells,oneC];first|done|assumption|omega)|omega|(repeat(first|assumption|exact Fr.refl _ _|with_reducible apply Fr.alloc|with_reducible apply Fr.drew);done)|rfl) only [↓gsd, gs, ev, Nat.reduceAdd, Nat.reduceEqDiff, oneC, Value.cells, Option.isNone]
    · simp (maxSteps:=4000000)(disch:=first|assumption|(simp only[dz,Value.cells,oneC];first|done|assumption|omega)|omega|(repeat(first|assumption|exact Fr.refl _ _|with_reducible apply Fr.alloc|with_reducible apply Fr.drew);done)|rfl) only [↓gsd, gs, ev, Nat.reduceAdd, Nat.reduceEqDiff, oneC, Value.cells, Option.isNone, e1, e9]
      exact ⟨Nat.le_refl _, by (repeat (first | exact Fr.refl _ _ | assumption | with_reducible apply Fr.alloc | with_reducible apply Fr.drew | with_reducible refine Fr.setB ?_ _ _ (.inr (by first | omega | (simp only [gz]; omega))) | with_reducible refine Fr.setB ?_ _ _ (.inl (by first | assumption | simp)) | with_reducible refine Fr.trans' ?_ (by assumption)))⟩
    rintro i e' w2 kk hi e14 ⟨e1', e9', e13', hci, hf2⟩ hk
    have cw2 := cur w2
    have hR2 := hR1.frN hf2
    have g2 := hf2.getN g1
    by_cases hit : (i : Int) < t
    · have d : decide ((i : Int) < t) = true := decide_eq_true hit
      have wr : IntKind.i64.wrap ((i : Int) + 1) = (i : Int) + 1 := wrap64 (by omega) (by omega)
      obtain ⟨p1, p2, p3⟩ := h4 i (by omega) hit
      simp (maxSteps:=4000000)(disch:=first|assumption|(simp only[dz,Value.cells,oneC];first|done|assumption|omega)|omega|(repeat(first|assumption|exact Fr.refl _ _|with_reducible apply Fr.alloc|with_reducible apply Fr.drew);done)|rfl) only [↓gsd, gs, ev, Nat.reduceAdd, Nat.reduceEqDiff, oneC, Value.cells, Option.isNone, gt, ↓stays_f, ↓stays_fr, stays_xv, true_or, or_true, frT_self, frT_drew, frT_drew0, frT_alloc, ↓hk4, e1', e9', e13', e14, g2, d]
      refine read_o hR2.at_ fun w3 hf3 => ?_
      have cw3 := cur w3
      have g3 := hf3.getN g2
      have l3 := lt_of_get _ _ g3
      generalize o.st.read key i = fe at p1 p2 p3
      obtain ⟨f, er⟩ := fe
      simp only at p1 p2 p3
      subst p1 p2 p3
      unfold St.encFact
      simp (maxSteps:=4000000)(disch:=first|assumption|(simp only[dz,Value.cells,oneC];first|done|assumption|omega)|omega|(repeat(first|assumption|exact Fr.refl _ _|with_reducible apply Fr.alloc|with_reducible apply Fr.drew);done)|rfl) only [↓gsd, gs, ev, Nat.reduceAdd, Nat.reduceEqDiff, oneC, Value.cells, Option.isNone, gt, ↓stays_f, ↓stays_fr, stays_xv, true_or, or_true, frT_self, frT_drew, frT_drew0, frT_alloc, ↓hk4, e1', e9', e13', e14, g3, wr]
      refine hk _ _ (by omega) (by simp (maxSteps:=4000000)(disch:=first|assumption|(simp only[dz,Value.cells,oneC];first|done|assumption|omega)|omega|(repeat(first|assumption|exact Fr.refl _ _|with_reducible apply Fr.alloc|with_reducible apply Fr.drew);done)|rfl) only [↓gsd, gs, ev, Nat.reduceAdd, Nat.reduceEqDiff, oneC, Value.cells, Option.isNone]) ?_
      simp (maxSteps:=4000000)(disch:=first|assumption|(simp only[dz,Value.cells,oneC];first|done|assumption|omega)|omega|(repeat(first|assumption|exact Fr.refl _ _|with_reducible apply Fr.alloc|with_reducible apply Fr.drew);done)|rfl) only [↓gsd, gs, ev, Nat.reduceAdd, Nat.reduceEqDiff, oneC, Value.cells, Option.isNone, e1', e9', e13']
      exact ⟨by omega, by (repeat (first | exact Fr.refl _ _ | assumption | with_reducible apply Fr.alloc | with_reducible apply Fr.drew | with_reducible refine Fr.setB ?_ _ _ (.inr (by first | omega | (simp only [gz]; omega))) | with_reducible refine Fr.setB ?_ _ _ (.inl (by first | assumption | simp)) | with_reducible refine Fr.trans' ?_ (by assumption)))⟩
    · have d : decide ((i : Int) < t) = false := decide_eq_false hit
      simp (maxSteps:=4000000)(disch:=first|assumption|(simp only[dz,Value.cells,oneC];first|done|assumption|omega)|omega|(repeat(first|assumption|exact Fr.refl _ _|with_reducible apply Fr.alloc|with_reducible apply Fr.drew);done)|rfl) only [↓gsd, gs, ev, Nat.reduceAdd, Nat.reduceEqDiff, oneC, Value.cells, Option.isNone, gt, ↓stays_f, ↓stays_fr, stays_xv, true_or, or_true, frT_self, frT_drew, frT_drew0, frT_alloc, ↓hk4, e1', e9', e13', e14, g2, d]
      exact hK _ (hR1.frN hf2).fr
set_option maxHeartbeats 64000000 in
theorem tells_spec {w : World} {lv : Value} {ms : List Msg} {key : ByteArray} {lo hi : Int} {K : Value → World → Prop} (hl : SlOf 16 encMsg w lv ms) (hm : ∀ (i : Nat) m, ms[i]? = some m → ∃ ws ks, MsgAt w m ws ks)
    (hlo : 0 ≤ lo ∧ lo < 256) (hhi : 0 ≤ hi ∧ hi < 256) (hml : ms.length ≤ maxLen) (hK : ∀ w', Fr [] w w' → K (.bool true) w') : CallsN Try.prog 4 [lv, .string key, .int .u8 lo, .int .u8 hi] w K := by
  have cw := cur w
  simp only [maxLen] at hml
  obtain ⟨la, lc, hlv⟩ := hl.form
  refine call4 ?_
  simp (maxSteps:=4000000)(disch:=first|assumption|(simp only[dz,Value.cells,oneC];first|done|assumption|omega)|omega|(repeat(first|assumption|exact Fr.refl _ _|with_reducible apply Fr.alloc|with_reducible apply Fr.drew);done)|rfl) only [↓gsd, gs, ev, Nat.reduceAdd, Nat.reduceEqDiff, oneC, Value.cells, Option.isNone, gt, ↓stays_f, ↓stays_fr, stays_xv, true_or, or_true, frT_self, frT_drew, frT_drew0, frT_alloc, ↓hk4]
  refine fixed_spec fun w1 hf1 => ?_
  have cw1 := cur w1
  simp (maxSteps:=4000000)(disch:=first|assumption|(simp only[dz,Value.cells,oneC];first|done|assumption|omega)|omega|(repeat(first|assumption|exact Fr.refl _ _|with_reducible apply Fr.alloc|with_reducible apply Fr.drew);done)|rfl) only [↓gsd, gs, ev, Nat.reduceAdd, Nat.reduceEqDiff, oneC, Value.cells, Option.isNone, gt, ↓stays_f, ↓stays_fr, stays_xv, true_or, or_true, frT_self, frT_drew, frT_drew0, frT_alloc, ↓hk4]
  refine onew_spec (c := ⟨3, 0, 0, 0, 0, 3, 0, 0⟩) fun a w2 hf2 h2 hy => ?_
  have cw2 := cur w2
  have y2 : Young w a [a.lb] := ⟨fun x hx => Nat.le_trans hf1.size (hy x (by rcases hx with r | r | r | r <;> simp [r])), fun x hx => Nat.le_trans hf1.size (hy x (by simp at hx; simp [hx]))⟩
  simp (maxSteps:=4000000)(disch:=first|assumption|(simp only[dz,Value.cells,oneC];first|done|assumption|omega)|omega|(repeat(first|assumption|exact Fr.refl _ _|with_reducible apply Fr.alloc|with_reducible apply Fr.drew);done)|rfl) only [↓gsd, gs, ev, Nat.reduceAdd, Nat.reduceEqDiff, oneC, Value.cells, Option.isNone, gt, ↓stays_f, ↓stays_fr, stays_xv, true_or, or_true, frT_self, frT_drew, frT_drew0, frT_alloc, ↓hk4, hlv]
  rw [← hlv]
  refine for_intro ms.length 10 0 (fun i e w' => e 0 = lv ∧ e 1 = .string key ∧ e 2 = .int .u8 lo ∧ e 3 = .int .u8 hi ∧ e 9 = .pointer (some ⟨a.ob, 0, none⟩) ∧ ∃ o Wr Rd, Ran w w' a o Wr Rd ∧ o.cfg.nodes = 3) ?_ (Nat.zero_le _) ?_ ?_
  · simp (maxSteps:=4000000)(disch:=first|assumption|(simp only[dz,Value.cells,oneC];first|done|assumption|omega)|omega|(repeat(first|assumption|exact Fr.refl _ _|with_reducible apply Fr.alloc|with_reducible apply Fr.drew);done)|rfl) only [↓gsd, gs, ev, Nat.reduceAdd, Nat.reduceEqDiff, oneC, Value.cells, Option.isNone]; rfl
  · simp (maxSteps:=4000000)(disch:=first|assumption|(simp only[dz,Value.cells,oneC];first|done|assumption|omega)|omega|(repeat(first|assumption|exact Fr.refl _ _|with_reducible apply Fr.alloc|with_reducible apply Fr.drew);done)|rfl) only [↓gsd, gs, ev, Nat.reduceAdd, Nat.reduceEqDiff, oneC, Value.cells, Option.isNone, hlv]
    exact ⟨_, _, _, ⟨h2, y2, hf1.trans' hf2⟩, rfl⟩
  rintro i e w4 kk hi' e10 ⟨e0, e1, e2, e3, e9, o, Wr, Rd, hR, hcf⟩ hk
  have cw4 := cur w4
  by_cases hil : i < ms.length
  · have d : decide ((i : Int) < (ms.length : Int)) = true := decide_eq_true (by omega)
    have i0 : (0 : Int) ≤ (i : Int) := by omega
    have i1 : (i : Int) < (ms.length : Int) := by omega
    have wr : IntKind.i64.wrap ((i : Int) + 1) = (i : Int) + 1 := wrap64 (by omega) (by omega)
    obtain ⟨m, hmi⟩ : ∃ m, ms[i]? = some m := ⟨ms[i], List.getElem?_eq_getElem hil⟩
    obtain ⟨ws, ks, hMA⟩ := hm i m hmi
    obtain ⟨bm, om, cm, obm, hv2, hobm, _, hrow, _⟩ := (hl.frN hR.fr).read encMsg_len i m hmi
    simp (maxSteps:=4000000)(disch:=first|assumption|(simp only[dz,Value.cells,oneC];first|done|assumption|omega)|omega|(repeat(first|assumption|exact Fr.refl _ _|with_reducible apply Fr.alloc|with_reducible apply Fr.drew);done)|rfl) only [↓gsd, gs, ev, Nat.reduceAdd, Nat.reduceEqDiff, oneC, Value.cells, Option.isNone, gt, ↓stays_f, ↓stays_fr, stays_xv, true_or, or_true, frT_self, frT_drew, frT_drew0, frT_alloc, ↓hk4, e0, e9, e10, hv2, d, i0, i1, Int.toNat_natCast, hobm, hrow]
    refine handle_spec hR.at_ (hMA.frN hR.fr) (offOld (w := w) hMA hR.y) (by rw [hcf]; decide) fun vo w5 Wr5 Rd5 h5 s5 a5 => ?_
    have cw5 := cur w5
    simp (maxSteps:=4000000)(disch:=first|assumption|(simp only[dz,Value.cells,oneC];first|done|assumption|omega)|omega|(repeat(first|assumption|exact Fr.refl _ _|with_reducible apply Fr.alloc|with_reducible apply Fr.drew);done)|rfl) only [↓gsd, gs, ev, Nat.reduceAdd, Nat.reduceEqDiff, oneC, Value.cells, Option.isNone, gt, ↓stays_f, ↓stays_fr, stays_xv, true_or, or_true, frT_self, frT_drew, frT_drew0, frT_alloc, ↓hk4, e10, wr]
    refine hk _ _ hil (by simp (maxSteps:=4000000)(disch:=first|assumption|(simp only[dz,Value.cells,oneC];first|done|assumption|omega)|omega|(repeat(first|assumption|exact Fr.refl _ _|with_reducible apply Fr.alloc|with_reducible apply Fr.drew);done)|rfl) only [↓gsd, gs, ev, Nat.reduceAdd, Nat.reduceEqDiff, oneC, Value.cells, Option.isNone]) ?_
    simp (maxSteps:=4000000)(disch:=first|assumption|(simp only[dz,Value.cells,oneC];first|done|assumption|omega)|omega|(repeat(first|assumption|exact Fr.refl _ _|with_reducible apply Fr.alloc|with_reducible apply Fr.drew);done)|rfl) only [↓gsd, gs, ev, Nat.reduceAdd, Nat.reduceEqDiff, oneC, Value.cells, Option.isNone, e0, e1, e2, e3, e9, hv2]
    exact ⟨_, _, _, hR.step h5 s5, by rw [handle_cfg]; exact hcf⟩
  · have d : decide ((i : Int) < (ms.length : Int)) = false := decide_eq_false (by omega)
    have wl : IntKind.i64.wrap lo = lo := wrap64 (by omega) (by omega)
    have wh : IntKind.i64.wrap hi = hi := wrap64 (by omega) (by omega)
    simp (maxSteps:=4000000)(disch:=first|assumption|(simp only[dz,Value.cells,oneC];first|done|assumption|omega)|omega|(repeat(first|assumption|exact Fr.refl _ _|with_reducible apply Fr.alloc|with_reducible apply Fr.drew);done)|rfl) only [↓gsd, gs, ev, Nat.reduceAdd, Nat.reduceEqDiff, oneC, Value.cells, Option.isNone, gt, ↓stays_f, ↓stays_fr, stays_xv, true_or, or_true, frT_self, frT_drew, frT_drew0, frT_alloc, ↓c4_13_s, ↓c4_19_s, ↓c4_24_s, ↓c4_23_s, ↓c4_22_s, ↓c4_21_s, ↓c4_20_s, ↓c4_18_s, ↓c4_26_s, ↓c4_25_s, ↓c4_17_s, ↓c4_16_s, ↓c4_15_s, ↓c4_14_s, ↓c4_12_s, ↓c4_29_s, ↓c4_28_s, ↓c4_27_s, ↓c4_11_s, ↓c4_32_s, ↓c4_31_s, ↓c4_30_s, ↓c4_10_s, ↓c4_35_s, ↓c4_34_s, ↓c4_33_s, ↓c4_9_s, ↓c4_8_s, ↓c4_38_s, ↓c4_37_s, ↓c4_36_s, ↓c4_7_s, ↓c4_41_s, ↓c4_40_s, ↓c4_39_s, ↓c4_5_s, ↓c4_4_s, ↓c4_47_s, ↓c4_49_s, ↓c4_48_s, ↓c4_46_s, ↓c4_51_s, ↓c4_50_s, ↓c4_45_s, ↓c4_44_s, ↓c4_43_s, ↓c4_42_s, ↓c4_3_s, ↓c4_2_s, ↓c4_54_s, ↓c4_53_s, ↓c4_52_s, ↓c4_1_s, ↓c4_s, ↓w3t_4, e0, e1, e2, e3, e9, e10, hlv, d, wl, wh]
    generalize hW : World.alloc w4 _ = w5
    have hf5 : Fr [] w4 w5 := by rw [← hW]; (repeat (first | exact Fr.refl _ _ | assumption | with_reducible apply Fr.alloc | with_reducible apply Fr.drew | with_reducible refine Fr.setB ?_ _ _ (.inr (by first | omega | (simp only [gz]; omega))) | with_reducible refine Fr.setB ?_ _ _ (.inl (by first | assumption | simp)) | with_reducible refine Fr.trans' ?_ (by assumption)))
    have hz5 : w5.heap.size = w4.heap.size + 1 := by rw [← hW]; simp only [gz]
    obtain ⟨pb, hpb⟩ : ∃ pb, pb = w4.heap.size := ⟨_, rfl⟩
    rw [← hpb]
    have g5 : w5.heap[pb]? = some (.cells ([.int .i64 lo, .int .i64 hi] : List Value).toArray 33 (0, 0)) := by rw [← hW, hpb]; exact get_alloc_new _ _
    clear hW
    have cw5 := cur w5
    have hR5 := hR.frN hf5
    have hme : (encMsg (m5 key lo hi)).toArray = #[.int .i64 5, .int .i64 0, .int .i64 0, .int .i64 0, .int .i64 1, .int .i64 9, .string key, .int .i64 lo, .int .i64 hi, .bool false, .string ⟨#[]⟩, .bool false, .int .i64 0, .int .i64 0, .slice none 0 0, .slice none 0 0] := rfl
    try simp (maxSteps:=4000000)(disch:=first|assumption|(simp only[dz,Value.cells,oneC];first|done|assumption|omega)|omega|(repeat(first|assumption|exact Fr.refl _ _|with_reducible apply Fr.alloc|with_reducible apply Fr.drew);done)|rfl) only [↓gsd, gs, ev, Nat.reduceAdd, Nat.reduceEqDiff, oneC, Value.cells, Option.isNone, gt, ↓stays_f, ↓stays_fr, stays_xv, true_or, or_true, frT_self, frT_drew, frT_drew0, frT_alloc, ↓c4_13_s, ↓c4_19_s, ↓c4_24_s, ↓c4_23_s, ↓c4_22_s, ↓c4_21_s, ↓c4_20_s, ↓c4_18_s, ↓c4_26_s, ↓c4_25_s, ↓c4_17_s, ↓c4_16_s, ↓c4_15_s, ↓c4_14_s, ↓c4_12_s, ↓c4_29_s, ↓c4_28_s, ↓c4_27_s, ↓c4_11_s, ↓c4_32_s, ↓c4_31_s, ↓c4_30_s, ↓c4_10_s, ↓c4_35_s, ↓c4_34_s, ↓c4_33_s, ↓c4_9_s, ↓c4_8_s, ↓c4_38_s, ↓c4_37_s, ↓c4_36_s, ↓c4_7_s, ↓c4_41_s, ↓c4_40_s, ↓c4_39_s, ↓c4_5_s, ↓c4_4_s, ↓c4_47_s, ↓c4_49_s, ↓c4_48_s, ↓c4_46_s, ↓c4_51_s, ↓c4_50_s, ↓c4_45_s, ↓c4_44_s, ↓c4_43_s, ↓c4_42_s, ↓c4_3_s, ↓c4_2_s, ↓c4_54_s, ↓c4_53_s, ↓c4_52_s, ↓c4_1_s, ↓c4_s, ↓w3t_4, g5]
    rw [← hme]
    refine handle_spec (ws := []) (ks := []) hR5.at_ ⟨Sl.nil, Sl.nil, by decide, by decide⟩ (fun q => absurd rfl q) (by rw [hcf]; decide) fun vo w6 Wr6 Rd6 h6 s6 a6 => ?_
    have cw6 := cur w6
    have kp : KeepO w5 a Wr Rd pb := hR.at_.fresh (by omega) (by omega)
    have g6 := s6.fr.get g5 kp.toKeep.notin
    have hR6 := hR5.step h6 s6
    try simp (maxSteps:=4000000)(disch:=first|assumption|(simp only[dz,Value.cells,oneC];first|done|assumption|omega)|omega|(repeat(first|assumption|exact Fr.refl _ _|with_reducible apply Fr.alloc|with_reducible apply Fr.drew);done)|rfl) only [↓gsd, gs, ev, Nat.reduceAdd, Nat.reduceEqDiff, oneC, Value.cells, Option.isNone, gt, ↓stays_f, ↓stays_fr, stays_xv, true_or, or_true, frT_self, frT_drew, frT_drew0, frT_alloc, ↓c4_13_s, ↓c4_19_s, ↓c4_24_s, ↓c4_23_s, ↓c4_22_s, ↓c4_21_s, ↓c4_20_s, ↓c4_18_s, ↓c4_26_s, ↓c4_25_s, ↓c4_17_s, ↓c4_16_s, ↓c4_15_s, ↓c4_14_s, ↓c4_12_s, ↓c4_29_s, ↓c4_28_s, ↓c4_27_s, ↓c4_11_s, ↓c4_32_s, ↓c4_31_s, ↓c4_30_s, ↓c4_10_s, ↓c4_35_s, ↓c4_34_s, ↓c4_33_s, ↓c4_9_s, ↓c4_8_s, ↓c4_38_s, ↓c4_37_s, ↓c4_36_s, ↓c4_7_s, ↓c4_41_s, ↓c4_40_s, ↓c4_39_s, ↓c4_5_s, ↓c4_4_s, ↓c4_47_s, ↓c4_49_s, ↓c4_48_s, ↓c4_46_s, ↓c4_51_s, ↓c4_50_s, ↓c4_45_s, ↓c4_44_s, ↓c4_43_s, ↓c4_42_s, ↓c4_3_s, ↓c4_2_s, ↓c4_54_s, ↓c4_53_s, ↓c4_52_s, ↓c4_1_s, ↓c4_s, ↓w3t_4]
    have hcs := tells hR5.at_.wf (key := key) (lo := lo) (hi := hi) hlo.1 hhi.2
    have heq : (o.handle (m5 key lo hi) [] []).2 = o := by
      rcases hcs with ⟨_, h⟩ | ⟨_, ⟨_, _, h, _⟩ | ⟨_, _, _, _, _, _, h, _⟩⟩ <;> rw [h]
    rw [heq] at hR6
    refine tells_rest (key := key) (lo := lo) (hi := hi) (pb := pb) hR6 a6 g6 hlo hhi ?_ ?_ ?_ ?_ ?_ ?_ ?_ hK
    · rcases hcs with ⟨q, h⟩ | ⟨q, ⟨er, q1, h, q2⟩ | ⟨h1, h2, h3, h4, h5, h7, h, hr⟩⟩
      · exact .inl ⟨q, by rw [h]⟩
      · exact .inr ⟨q, .inl ⟨er, q1, by rw [h], q2⟩⟩
      · exact .inr ⟨q, .inr ⟨h1, h2, h3, h4, h5, h7, by rw [h], hr⟩⟩
    · simp (maxSteps:=4000000)(disch:=first|assumption|(simp only[dz,Value.cells,oneC];first|done|assumption|omega)|omega|(repeat(first|assumption|exact Fr.refl _ _|with_reducible apply Fr.alloc|with_reducible apply Fr.drew);done)|rfl) only [↓gsd, gs, ev, Nat.reduceAdd, Nat.reduceEqDiff, oneC, Value.cells, Option.isNone, e1]
    · simp (maxSteps:=4000000)(disch:=first|assumption|(simp only[dz,Value.cells,oneC];first|done|assumption|omega)|omega|(repeat(first|assumption|exact Fr.refl _ _|with_reducible apply Fr.alloc|with_reducible apply Fr.drew);done)|rfl) only [↓gsd, gs, ev, Nat.reduceAdd, Nat.reduceEqDiff, oneC, Value.cells, Option.isNone, e2]
    · simp (maxSteps:=4000000)(disch:=first|assumption|(simp only[dz,Value.cells,oneC];first|done|assumption|omega)|omega|(repeat(first|assumption|exact Fr.refl _ _|with_reducible apply Fr.alloc|with_reducible apply Fr.drew);done)|rfl) only [↓gsd, gs, ev, Nat.reduceAdd, Nat.reduceEqDiff, oneC, Value.cells, Option.isNone, e3]
    · simp (maxSteps:=4000000)(disch:=first|assumption|(simp only[dz,Value.cells,oneC];first|done|assumption|omega)|omega|(repeat(first|assumption|exact Fr.refl _ _|with_reducible apply Fr.alloc|with_reducible apply Fr.drew);done)|rfl) only [↓gsd, gs, ev, Nat.reduceAdd, Nat.reduceEqDiff, oneC, Value.cells, Option.isNone, e9]
    · simp (maxSteps:=4000000)(disch:=first|assumption|(simp only[dz,Value.cells,oneC];first|done|assumption|omega)|omega|(repeat(first|assumption|exact Fr.refl _ _|with_reducible apply Fr.alloc|with_reducible apply Fr.drew);done)|rfl) only [↓gsd, gs, ev, Nat.reduceAdd, Nat.reduceEqDiff, oneC, Value.cells, Option.isNone, hpb]
    · simp (maxSteps:=4000000)(disch:=first|assumption|(simp only[dz,Value.cells,oneC];first|done|assumption|omega)|omega|(repeat(first|assumption|exact Fr.refl _ _|with_reducible apply Fr.alloc|with_reducible apply Fr.drew);done)|rfl) only [↓gsd, gs, ev, Nat.reduceAdd, Nat.reduceEqDiff, oneC, Value.cells, Option.isNone]
end Go.Proofs.Ytgloomahpjpiiaa.Or
