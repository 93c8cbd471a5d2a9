/- The reference of the gap: a list of what waits. -/
import Derived.Test.YtenokheiindfkaaF2
import Derived.Test.YtenokheiindfkaaM2
import Derived.Test.YtenokheiindfkaaG4
set_option linter.unusedVariables false
set_option linter.unusedSimpArgs false
set_option maxRecDepth 10000
namespace Go.Proofs.Ytenokheiindfkaa
open Go.VW
def KeyN (g : GS Rec) : Prop := ∀ p ∈ g.ws, p.1 = p.2.n
structure RefAt (w : World) (rb : Nat) (vw : Value) (g : GS Rec) : Prop where
  head : w.heap[rb]? = some (.cells ([.int .i64 g.at_, .int .i64 g.most, vw] : List Value).toArray 62 (0, 0))
  own : Own 2 54 w vw g.ws.length (cellsOf encR (g.ws.map (·.2)))
theorem RefAt.frN {w w' : World} {rb : Nat} {vw : Value} {g : GS Rec} (h : RefAt w rb vw g) (hf : Fr [] w w') : RefAt w' rb vw g := ⟨hf.getN h.head, Own.frN h.own hf⟩
theorem RefAt.fr {w w' : World} {rb : Nat} {vw : Value} {g : GS Rec} (h : RefAt w rb vw g) {M : List Nat} (hf : Fr M w w') (h1 : rb ∉ M) (h2 : ∀ b ∈ M, vw.ownBlock ≠ some b) : RefAt w' rb vw g := ⟨hf.get h.head h1, h.own.fr hf h2⟩
theorem RefAt.sl {w : World} {rb : Nat} {vw : Value} {g : GS Rec} (h : RefAt w rb vw g) : SlOf 2 encR w vw (g.ws.map (·.2)) := by
  unfold SlOf
  rw [List.length_map]; exact h.own.sl
theorem held {a : Int} {w : World} {K : Value → World → Prop} (hK : K (.int .i64 (clamp a)) w) : CallsN Try.prog 63 [.int .i64 a] w K := by
  have cw := cur w
  unfold clamp at hK
  refine call63 ?_
  by_cases h1 : a < 0
  · have d1 : decide (a < 0) = true := decide_eq_true h1
    rw [show min (max a 0) 1099511627776 = 0 by omega] at hK
    simp (maxSteps := 4000000) (disch := (first | assumption | exact List.not_mem_nil | ((repeat (first | assumption | apply cur_alloc | apply cur_setB | apply cur_drew | apply cur_drewN)); done) | omega | (simp only [gz, Value.cells, oneC]; first | done | omega) | ((simp only [List.mem_cons, List.not_mem_nil, or_false, gz]); omega) | rfl)) only [↓gsd, gs, ev, Nat.reduceAdd, Nat.reduceEqDiff, oneC, Value.cells, Option.isNone, gt, ↓hk63, d1]
    exact hK
  · have d1 : decide (a < 0) = false := decide_eq_false h1
    by_cases h2 : 1099511627776 < a
    · have d2 : decide (1099511627776 < a) = true := decide_eq_true h2
      rw [show min (max a 0) 1099511627776 = 1099511627776 by omega] at hK
      simp (maxSteps := 4000000) (disch := (first | assumption | exact List.not_mem_nil | ((repeat (first | assumption | apply cur_alloc | apply cur_setB | apply cur_drew | apply cur_drewN)); done) | omega | (simp only [gz, Value.cells, oneC]; first | done | omega) | ((simp only [List.mem_cons, List.not_mem_nil, or_false, gz]); omega) | rfl)) only [↓gsd, gs, ev, Nat.reduceAdd, Nat.reduceEqDiff, oneC, Value.cells, Option.isNone, gt, ↓hk63, d1, d2]
      exact hK
    · have d2 : decide (1099511627776 < a) = false := decide_eq_false h2
      rw [show min (max a 0) 1099511627776 = a by omega] at hK
      simp (maxSteps := 4000000) (disch := (first | assumption | exact List.not_mem_nil | ((repeat (first | assumption | apply cur_alloc | apply cur_setB | apply cur_drew | apply cur_drewN)); done) | omega | (simp only [gz, Value.cells, oneC]; first | done | omega) | ((simp only [List.mem_cons, List.not_mem_nil, or_false, gz]); omega) | rfl)) only [↓gsd, gs, ev, Nat.reduceAdd, Nat.reduceEqDiff, oneC, Value.cells, Option.isNone, gt, ↓hk63, d1, d2]
      exact hK
theorem refNew {a m : Int} {w : World} {K : Value → World → Prop} (hK : ∀ rb w', Fr [] w w' → w.heap.size ≤ rb → RefAt w' rb (.slice none 0 0) (GS.new a m) → K (.pointer (some ⟨rb, 0, none⟩)) w') : CallsN Try.prog 27 [.int .i64 a, .int .i64 m] w K := by
  have cw := cur w
  have hfin : ∀ mm : Int, mm = min (max m 0) 256 → K (.pointer (some ⟨w.heap.size, 0, none⟩)) (w.alloc (.cells ([.int .i64 (clamp a), .int .i64 mm, .slice none 0 0] : List Value).toArray 62)) := by
    intro mm hm
    refine hK _ _ ((Fr.refl _ _).alloc _) (Nat.le_refl _) ⟨?_, Own.nil⟩
    rw [get_alloc_new]
    have e : ((min (max m 0) 256).toNat : Int) = mm := by omega
    simp only [GS.new, e]
  refine call27 ?_
  by_cases h1 : m < 0
  · have d1 : decide (m < 0) = true := decide_eq_true h1
    have d2 : decide ((256 : Int) < 0) = false := by decide
    simp (maxSteps := 4000000) (disch := (first | assumption | exact List.not_mem_nil | ((repeat (first | assumption | apply cur_alloc | apply cur_setB | apply cur_drew | apply cur_drewN)); done) | omega | (simp only [gz, Value.cells, oneC]; first | done | omega) | ((simp only [List.mem_cons, List.not_mem_nil, or_false, gz]); omega) | rfl)) only [↓gsd, gs, ev, Nat.reduceAdd, Nat.reduceEqDiff, oneC, Value.cells, Option.isNone, gt, ↓hk27, d1, d2]
    refine held ?_
    simp (maxSteps := 4000000) (disch := (first | assumption | exact List.not_mem_nil | ((repeat (first | assumption | apply cur_alloc | apply cur_setB | apply cur_drew | apply cur_drewN)); done) | omega | (simp only [gz, Value.cells, oneC]; first | done | omega) | ((simp only [List.mem_cons, List.not_mem_nil, or_false, gz]); omega) | rfl)) only [↓gsd, gs, ev, Nat.reduceAdd, Nat.reduceEqDiff, oneC, Value.cells, Option.isNone, gt, ↓hk27]
    exact hfin _ (by omega)
  · have d1 : decide (m < 0) = false := decide_eq_false h1
    by_cases h2 : 256 < m
    · have d2 : decide (256 < m) = true := decide_eq_true h2
      simp (maxSteps := 4000000) (disch := (first | assumption | exact List.not_mem_nil | ((repeat (first | assumption | apply cur_alloc | apply cur_setB | apply cur_drew | apply cur_drewN)); done) | omega | (simp only [gz, Value.cells, oneC]; first | done | omega) | ((simp only [List.mem_cons, List.not_mem_nil, or_false, gz]); omega) | rfl)) only [↓gsd, gs, ev, Nat.reduceAdd, Nat.reduceEqDiff, oneC, Value.cells, Option.isNone, gt, ↓hk27, d1, d2]
      refine held ?_
      simp (maxSteps := 4000000) (disch := (first | assumption | exact List.not_mem_nil | ((repeat (first | assumption | apply cur_alloc | apply cur_setB | apply cur_drew | apply cur_drewN)); done) | omega | (simp only [gz, Value.cells, oneC]; first | done | omega) | ((simp only [List.mem_cons, List.not_mem_nil, or_false, gz]); omega) | rfl)) only [↓gsd, gs, ev, Nat.reduceAdd, Nat.reduceEqDiff, oneC, Value.cells, Option.isNone, gt, ↓hk27]
      exact hfin _ (by omega)
    · have d2 : decide (256 < m) = false := decide_eq_false h2
      simp (maxSteps := 4000000) (disch := (first | assumption | exact List.not_mem_nil | ((repeat (first | assumption | apply cur_alloc | apply cur_setB | apply cur_drew | apply cur_drewN)); done) | omega | (simp only [gz, Value.cells, oneC]; first | done | omega) | ((simp only [List.mem_cons, List.not_mem_nil, or_false, gz]); omega) | rfl)) only [↓gsd, gs, ev, Nat.reduceAdd, Nat.reduceEqDiff, oneC, Value.cells, Option.isNone, gt, ↓hk27, d1, d2]
      refine held ?_
      simp (maxSteps := 4000000) (disch := (first | assumption | exact List.not_mem_nil | ((repeat (first | assumption | apply cur_alloc | apply cur_setB | apply cur_drew | apply cur_drewN)); done) | omega | (simp only [gz, Value.cells, oneC]; first | done | omega) | ((simp only [List.mem_cons, List.not_mem_nil, or_false, gz]); omega) | rfl)) only [↓gsd, gs, ev, Nat.reduceAdd, Nat.reduceEqDiff, oneC, Value.cells, Option.isNone, gt, ↓hk27]
      exact hfin _ (by omega)
theorem refClear {a : Int} {w : World} {rb : Nat} {vw : Value} {g : GS Rec} {K : Value → World → Prop} (h : RefAt w rb vw g) (hK : ∀ w', Fr [rb] w w' → RefAt w' rb (.slice none 0 0) (g.clear a) → K (.tuple #[]) w') : CallsN Try.prog 64 [.pointer (some ⟨rb, 0, none⟩), .int .i64 a] w K := by
  have cw := cur w
  have hh := h.head
  have hlt := lt_of_get _ _ hh
  obtain ⟨va, vc, hv⟩ := h.own.sl.form
  rw [hv] at hh
  refine call64 ?_
  simp (maxSteps := 4000000) (disch := (first | assumption | exact List.not_mem_nil | ((repeat (first | assumption | apply cur_alloc | apply cur_setB | apply cur_drew | apply cur_drewN)); done) | omega | (simp only [gz, Value.cells, oneC]; first | done | omega) | ((simp only [List.mem_cons, List.not_mem_nil, or_false, gz]); omega) | rfl)) only [↓gsd, gs, ev, Nat.reduceAdd, Nat.reduceEqDiff, oneC, Value.cells, Option.isNone, gt, ↓hk64]
  refine held ?_
  simp (maxSteps := 4000000) (disch := (first | assumption | exact List.not_mem_nil | ((repeat (first | assumption | apply cur_alloc | apply cur_setB | apply cur_drew | apply cur_drewN)); done) | omega | (simp only [gz, Value.cells, oneC]; first | done | omega) | ((simp only [List.mem_cons, List.not_mem_nil, or_false, gz]); omega) | rfl)) only [↓gsd, gs, ev, Nat.reduceAdd, Nat.reduceEqDiff, oneC, Value.cells, Option.isNone, gt, ↓hk64, hh]
  refine hK _ (by (repeat (first | exact Fr.refl _ _ | assumption | with_reducible apply Fr.alloc | with_reducible apply Fr.drew | with_reducible refine Fr.setB ?_ _ _ (.inr (by first | omega | (simp only [gz]; omega))) | with_reducible refine Fr.setB ?_ _ _ (.inl (by first | assumption | simp)) | with_reducible refine Fr.trans' ?_ (by assumption)))) ⟨?_, Own.nil⟩
  simp (maxSteps := 4000000) (disch := (first | assumption | exact List.not_mem_nil | ((repeat (first | assumption | apply cur_alloc | apply cur_setB | apply cur_drew | apply cur_drewN)); done) | omega | (simp only [gz, Value.cells, oneC]; first | done | omega) | ((simp only [List.mem_cons, List.not_mem_nil, or_false, gz]); omega) | rfl)) only [↓gsd, gs, ev, Nat.reduceAdd, Nat.reduceEqDiff, oneC, Value.cells, Option.isNone, hh]
  rfl
def fidx {α : Type} (ws : List (Int × α)) (n : Int) : Int := if (aget ws n).isSome then (aidx ws n : Int) else -1
theorem find_spec {n : Int} {w : World} {rb : Nat} {vw : Value} {g : GS Rec} {K : Value → World → Prop} (h : RefAt w rb vw g) (hk : KeyN g) (hl : g.ws.length ≤ 1000000) (hK : K (.int .i64 (fidx g.ws n)) w) : CallsN Try.prog 87 [.pointer (some ⟨rb, 0, none⟩), .int .i64 n] w K := by
  have cw := cur w
  have hh := h.head
  have hlt := lt_of_get _ _ hh
  obtain ⟨va, vc, hv⟩ := h.own.sl.form
  have hh' := hh
  rw [hv] at hh'
  refine call87 ?_
  simp (maxSteps := 4000000) (disch := (first | assumption | exact List.not_mem_nil | ((repeat (first | assumption | apply cur_alloc | apply cur_setB | apply cur_drew | apply cur_drewN)); done) | omega | (simp only [gz, Value.cells, oneC]; first | done | omega) | ((simp only [List.mem_cons, List.not_mem_nil, or_false, gz]); omega) | rfl)) only [↓gsd, gs, ev, Nat.reduceAdd, Nat.reduceEqDiff, oneC, Value.cells, Option.isNone, gt, ↓hk87]
  refine loop_intro (fun e w' => ∃ i : Nat, i ≤ g.ws.length ∧ e 0 = .pointer (some ⟨rb, 0, none⟩) ∧ e 1 = .int .i64 n ∧ e 5 = .int .i64 i ∧ (fidx g.ws n = if (aget (g.ws.drop i) n).isSome then ((i + aidx (g.ws.drop i) n : Nat) : Int) else -1) ∧ w' = w) (fun e _ => g.ws.length - (numOf (e 5)).toNat) ?_ ?_
  · refine ⟨0, Nat.zero_le _, ?_⟩
    simp (maxSteps := 4000000) (disch := (first | assumption | exact List.not_mem_nil | ((repeat (first | assumption | apply cur_alloc | apply cur_setB | apply cur_drew | apply cur_drewN)); done) | omega | (simp only [gz, Value.cells, oneC]; first | done | omega) | ((simp only [List.mem_cons, List.not_mem_nil, or_false, gz]); omega) | rfl)) only [↓gsd, gs, ev, Nat.reduceAdd, Nat.reduceEqDiff, oneC, Value.cells, Option.isNone, Int.natCast_zero]
    simp [fidx]
  · rintro e w1 k ⟨i, hi, e0, e1, e5, hfx, rfl⟩ hkk
    by_cases hil : i < g.ws.length
    · have d : decide ((i : Int) < (g.ws.length : Int)) = true := decide_eq_true (by omega)
      obtain ⟨p, hp⟩ : ∃ p, g.ws[i]? = some p := ⟨g.ws[i], List.getElem?_eq_getElem hil⟩
      have hpm : (g.ws.map (·.2))[i]? = some p.2 := by rw [List.getElem?_map, hp]; rfl
      have hpn := hk p (List.mem_of_getElem? hp)
      have hdrop : g.ws.drop i = p :: g.ws.drop (i + 1) := by
        rw [List.drop_eq_getElem_cons hil]
        rw [List.getElem?_eq_getElem hil] at hp
        cases hp; rfl
      obtain ⟨b1, o1, p1, ob1, hw1, hob1, _, _, hc1⟩ := h.sl.read encR_len i p.2 hpm
      have hd1 := fun orig K => hc1 0 (.int .i64 p.2.n) orig K rfl
      simp only [Nat.add_zero] at hd1
      rw [List.length_map] at hw1
      have hh1 := hh
      rw [hw1] at hh1
      have i0 : (0 : Int) ≤ (i : Int) := by omega
      have i1 : (i : Int) < (g.ws.length : Int) := by omega
      by_cases hpe : p.2.n = n
      · have d2 : decide (p.2.n = n) = true := decide_eq_true hpe
        have e : fidx g.ws n = i := by
          rw [hfx, hdrop]
          simp [aget, aidx, hpn, hpe]
        rw [e] at hK
        simp (maxSteps := 4000000) (disch := (first | assumption | exact List.not_mem_nil | ((repeat (first | assumption | apply cur_alloc | apply cur_setB | apply cur_drew | apply cur_drewN)); done) | omega | (simp only [gz, Value.cells, oneC]; first | done | omega) | ((simp only [List.mem_cons, List.not_mem_nil, or_false, gz]); omega) | rfl)) only [↓gsd, gs, ev, Nat.reduceAdd, Nat.reduceEqDiff, oneC, Value.cells, Option.isNone, gt, ↓hk87, e0, e1, e5, hh1, d, i0, i1, Int.toNat_natCast, hob1, hd1, d2]
        exact hK
      · have d2 : decide (p.2.n = n) = false := decide_eq_false hpe
        simp (maxSteps := 4000000) (disch := (first | assumption | exact List.not_mem_nil | ((repeat (first | assumption | apply cur_alloc | apply cur_setB | apply cur_drew | apply cur_drewN)); done) | omega | (simp only [gz, Value.cells, oneC]; first | done | omega) | ((simp only [List.mem_cons, List.not_mem_nil, or_false, gz]); omega) | rfl)) only [↓gsd, gs, ev, Nat.reduceAdd, Nat.reduceEqDiff, oneC, Value.cells, Option.isNone, gt, ↓hk87, e0, e1, e5, hh1, d, i0, i1, Int.toNat_natCast, hob1, hd1, d2]
        refine hkk _ _ ⟨i + 1, by omega, ?_⟩ ?_
        · simp (maxSteps := 4000000) (disch := (first | assumption | exact List.not_mem_nil | ((repeat (first | assumption | apply cur_alloc | apply cur_setB | apply cur_drew | apply cur_drewN)); done) | omega | (simp only [gz, Value.cells, oneC]; first | done | omega) | ((simp only [List.mem_cons, List.not_mem_nil, or_false, gz]); omega) | rfl)) only [↓gsd, gs, ev, Nat.reduceAdd, Nat.reduceEqDiff, oneC, Value.cells, Option.isNone, e0, e1, e5, Int.natCast_add, Int.natCast_one]
          rw [hfx, hdrop]
          have : ¬ p.1 = n := by rw [hpn]; exact hpe
          simp only [aget, aidx, this, if_false]
          split <;> omega
        · have e3 : ((i : Int) + 1).toNat = i + 1 := by omega
          simp (maxSteps := 4000000) (disch := (first | assumption | exact List.not_mem_nil | ((repeat (first | assumption | apply cur_alloc | apply cur_setB | apply cur_drew | apply cur_drewN)); done) | omega | (simp only [gz, Value.cells, oneC]; first | done | omega) | ((simp only [List.mem_cons, List.not_mem_nil, or_false, gz]); omega) | rfl)) only [↓gsd, gs, ev, Nat.reduceAdd, Nat.reduceEqDiff, oneC, Value.cells, Option.isNone, e5, numOf, Int.toNat_natCast, e3]; omega
    · have d : decide ((i : Int) < (g.ws.length : Int)) = false := decide_eq_false (by omega)
      have e : fidx g.ws n = -1 := by
        rw [hfx, List.drop_eq_nil_of_le (by omega)]; simp [aget]
      rw [e] at hK
      simp (maxSteps := 4000000) (disch := (first | assumption | exact List.not_mem_nil | ((repeat (first | assumption | apply cur_alloc | apply cur_setB | apply cur_drew | apply cur_drewN)); done) | omega | (simp only [gz, Value.cells, oneC]; first | done | omega) | ((simp only [List.mem_cons, List.not_mem_nil, or_false, gz]); omega) | rfl)) only [↓gsd, gs, ev, Nat.reduceAdd, Nat.reduceEqDiff, oneC, Value.cells, Option.isNone, gt, ↓hk87, e0, e1, e5, hh', d]
      exact hK
end Go.Proofs.Ytenokheiindfkaa
