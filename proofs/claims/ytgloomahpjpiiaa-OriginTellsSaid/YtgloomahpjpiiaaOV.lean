/- OriginOnce: plain walked. -/
import Derived.Test.YtgloomahpjpiiaaOQ
import Derived.Test.YtgloomahpjpiiaaON
set_option linter.unusedVariables false
set_option linter.unusedSimpArgs false
set_option maxRecDepth 10000
namespace Go.Proofs.Ytgloomahpjpiiaa.Or
open Go.VW
theorem all_take_snoc {α : Type} {l : List α} {i : Nat} {y : α} (h : l[i]? = some y) {p : α → Bool} (h0 : (l.take i).all p = true) (hp : p y = true) : (l.take (i + 1)).all p = true := by
  rw [List.take_add_one, h, List.all_append, h0]; simp [hp]
theorem not_all {α : Type} {l : List α} {i : Nat} {y : α} (h : l[i]? = some y) {p : α → Bool} (hp : p y = false) : l.all p = false := by
  rw [Bool.eq_false_iff]
  intro ha
  rw [List.all_eq_true.1 ha y (List.mem_of_getElem? h)] at hp
  cases hp
set_option maxHeartbeats 8000000 in
theorem plain_spec {w : World} {v : Value} {ws : List St.Wr} {K : Value → World → Prop} (h : SlOf 3 St.encWr w v ws) (hl : ws.length ≤ 9223372036854775807)
    (hK : ∀ w', Fr [] w w' → K (.bool (ws.all plainW)) w') : CallsN Try.prog 10 [v] w K := by
  have cw := cur w
  obtain ⟨va, vc, hv⟩ := h.form
  refine call10 ?_
  simp (maxSteps:=4000000)(disch:=first|assumption|(simp only[dz,Value.cells,oneC];first|done|assumption|omega)|omega|(repeat(first|assumption|exact Fr.refl _ _|with_reducible apply Fr.alloc|with_reducible apply Fr.drew);done)|rfl) only [↓gsd, gs, ev, Nat.reduceAdd, Nat.reduceEqDiff, oneC, Value.cells, Option.isNone, gt, ↓stays_f, ↓stays_fr, stays_xv, true_or, or_true, frT_self, frT_drew, frT_drew0, frT_alloc, ↓hk10, hv]
  rw [← hv]
  refine for_intro ws.length 3 0 (fun i e w' => e 0 = v ∧ (ws.take i).all plainW = true ∧ Fr [] w w') ?_ (Nat.zero_le _) ?_ ?_
  · simp (maxSteps:=4000000)(disch:=first|assumption|(simp only[dz,Value.cells,oneC];first|done|assumption|omega)|omega|(repeat(first|assumption|exact Fr.refl _ _|with_reducible apply Fr.alloc|with_reducible apply Fr.drew);done)|rfl) only [↓gsd, gs, ev, Nat.reduceAdd, Nat.reduceEqDiff, oneC, Value.cells, Option.isNone]; rfl
  · simp (maxSteps:=4000000)(disch:=first|assumption|(simp only[dz,Value.cells,oneC];first|done|assumption|omega)|omega|(repeat(first|assumption|exact Fr.refl _ _|with_reducible apply Fr.alloc|with_reducible apply Fr.drew);done)|rfl) only [↓gsd, gs, ev, Nat.reduceAdd, Nat.reduceEqDiff, oneC, Value.cells, Option.isNone, hv]
    exact Fr.refl _ _
  rintro i e w1 kk hi e3 ⟨e0, hno, hf⟩ hk
  have cw1 := cur w1
  by_cases hil : i < ws.length
  · have d : decide ((i : Int) < (ws.length : Int)) = true := decide_eq_true (by omega)
    obtain ⟨y, hy⟩ : ∃ y, ws[i]? = some y := ⟨ws[i], List.getElem?_eq_getElem hil⟩
    obtain ⟨bb, off, cap, ob, hv1, hob, _, hrow, _⟩ := (h.frN hf).read St.encWr_len i y hy
    have i0 : (0 : Int) ≤ (i : Int) := by omega
    have i1 : (i : Int) < (ws.length : Int) := by omega
    have wr : IntKind.i64.wrap ((i : Int) + 1) = (i : Int) + 1 := wrap64 (by omega) (by omega)
    unfold St.encWr at hrow
    cases q : plainW y with
    | false =>
      have hK' := hK
      rw [not_all hy q] at hK'
      unfold plainW at q
      cases q1 : decide ((y.key.size : Int) < 1) <;> cases q2 : decide (32 < (y.key.size : Int)) <;> cases q3 : decide (256 < (y.data.size : Int)) <;> cases q4 : y.has <;> cases q5 : decide (y.data = (⟨#[]⟩ : ByteArray)) <;>
        first
        | (exfalso; rw [q1, q2, q3, q4, q5] at q; revert q; decide)
        | (rw [q4] at hrow
           simp (maxSteps:=4000000)(disch:=first|assumption|(simp only[dz,Value.cells,oneC];first|done|assumption|omega)|omega|(repeat(first|assumption|exact Fr.refl _ _|with_reducible apply Fr.alloc|with_reducible apply Fr.drew);done)|rfl) only [↓gsd, gs, ev, Nat.reduceAdd, Nat.reduceEqDiff, oneC, Value.cells, Option.isNone, gt, ↓stays_f, ↓stays_fr, stays_xv, true_or, or_true, frT_self, frT_drew, frT_drew0, frT_alloc, ↓hk10, e0, e3, hv1, d, i0, i1, Int.toNat_natCast, hob, hrow, q1, q2, q3, q5]
           exact hK' _ (by (repeat (first | exact Fr.refl _ _ | assumption | with_reducible apply Fr.alloc | with_reducible apply Fr.drew | with_reducible refine Fr.setB ?_ _ _ (.inr (by first | omega | (simp only [gz]; omega))) | with_reducible refine Fr.setB ?_ _ _ (.inl (by first | assumption | simp)) | with_reducible refine Fr.trans' ?_ (by assumption)))))
    | true =>
      have q' := q
      unfold plainW at q
      cases q1 : decide ((y.key.size : Int) < 1) <;> cases q2 : decide (32 < (y.key.size : Int)) <;> cases q3 : decide (256 < (y.data.size : Int)) <;> cases q4 : y.has <;> cases q5 : decide (y.data = (⟨#[]⟩ : ByteArray)) <;>
        first
        | (exfalso; rw [q1, q2, q3, q4, q5] at q; revert q; decide)
        | (rw [q4] at hrow
           simp (maxSteps:=4000000)(disch:=first|assumption|(simp only[dz,Value.cells,oneC];first|done|assumption|omega)|omega|(repeat(first|assumption|exact Fr.refl _ _|with_reducible apply Fr.alloc|with_reducible apply Fr.drew);done)|rfl) only [↓gsd, gs, ev, Nat.reduceAdd, Nat.reduceEqDiff, oneC, Value.cells, Option.isNone, gt, ↓stays_f, ↓stays_fr, stays_xv, true_or, or_true, frT_self, frT_drew, frT_drew0, frT_alloc, ↓hk10, e0, e3, hv1, d, i0, i1, Int.toNat_natCast, hob, hrow, q1, q2, q3, q5, wr]
           refine hk _ _ hil (by simp (maxSteps:=4000000)(disch:=first|assumption|(simp only[dz,Value.cells,oneC];first|done|assumption|omega)|omega|(repeat(first|assumption|exact Fr.refl _ _|with_reducible apply Fr.alloc|with_reducible apply Fr.drew);done)|rfl) only [↓gsd, gs, ev, Nat.reduceAdd, Nat.reduceEqDiff, oneC, Value.cells, Option.isNone]) ?_
           simp (maxSteps:=4000000)(disch:=first|assumption|(simp only[dz,Value.cells,oneC];first|done|assumption|omega)|omega|(repeat(first|assumption|exact Fr.refl _ _|with_reducible apply Fr.alloc|with_reducible apply Fr.drew);done)|rfl) only [↓gsd, gs, ev, Nat.reduceAdd, Nat.reduceEqDiff, oneC, Value.cells, Option.isNone, e0, hv1]
           exact ⟨all_take_snoc hy hno q', by (repeat (first | exact Fr.refl _ _ | assumption | with_reducible apply Fr.alloc | with_reducible apply Fr.drew | with_reducible refine Fr.setB ?_ _ _ (.inr (by first | omega | (simp only [gz]; omega))) | with_reducible refine Fr.setB ?_ _ _ (.inl (by first | assumption | simp)) | with_reducible refine Fr.trans' ?_ (by assumption)))⟩)
  · have d : decide ((i : Int) < (ws.length : Int)) = false := decide_eq_false (by omega)
    rw [List.take_of_length_le (by omega)] at hno
    simp (maxSteps:=4000000)(disch:=first|assumption|(simp only[dz,Value.cells,oneC];first|done|assumption|omega)|omega|(repeat(first|assumption|exact Fr.refl _ _|with_reducible apply Fr.alloc|with_reducible apply Fr.drew);done)|rfl) only [↓gsd, gs, ev, Nat.reduceAdd, Nat.reduceEqDiff, oneC, Value.cells, Option.isNone, gt, ↓stays_f, ↓stays_fr, stays_xv, true_or, or_true, frT_self, frT_drew, frT_drew0, frT_alloc, ↓hk10, e0, e3, hv, d]
    rw [hno] at hK
    exact hK _ hf
end Go.Proofs.Ytgloomahpjpiiaa.Or
