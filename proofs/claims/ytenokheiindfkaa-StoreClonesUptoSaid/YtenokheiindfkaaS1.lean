/- The store in memory, and what its functions do. -/
import Derived.Test.YtenokheiindfkaaC7
import Derived.Test.YtenokheiindfkaaT0
import Derived.Test.YtenokheiindfkaaG1
set_option linter.unusedVariables false
set_option linter.unusedSimpArgs false
set_option maxRecDepth 10000
namespace Go.Proofs.Ytenokheiindfkaa
open Go.VW
def goodKey (k : ByteArray) : Bool := decide (1 ≤ (k.size : Int)) && decide ((k.size : Int) ≤ 32)
structure Wr where
  key : ByteArray
  has : Bool
  data : ByteArray
def goodWr (x : Wr) : Bool := goodKey x.key && (decide ((x.data.size : Int) ≤ 256) && (x.has || decide (x.data = ⟨#[]⟩)))
def encWr (x : Wr) : List Value := [.string x.key, .bool x.has, .string x.data]
theorem goodKey_spec {key : ByteArray} {w : World} {K : Value → World → Prop} (hK : K (.bool (goodKey key)) w) : CallsN Try.prog 53 [.string key] w K := by
  have cw := cur w
  refine call53 ?_
  cases h : decide (1 ≤ (key.size : Int)) <;> simp only [goodKey, h, Bool.true_and, Bool.false_and] at hK <;> simp (maxSteps := 4000000) (disch := (first | assumption | exact List.not_mem_nil | exact Fr.refl _ _ | ((repeat (first | assumption | apply cur_alloc | apply cur_setB | apply cur_drew | apply cur_drewN)); done) | omega | (simp only [gz, Value.cells, oneC]; first | done | omega) | ((simp only [List.mem_cons, List.not_mem_nil, or_false, gz]); omega) | rfl)) only [↓gsd, gs, ev, Nat.reduceAdd, Nat.reduceEqDiff, oneC, Value.cells, Option.isNone, gt, ↓hk53, h] <;> exact hK
theorem goodWr_spec {x : Wr} {w : World} {K : Value → World → Prop} (hK : ∀ w', Fr [] w w' → K (.bool (goodWr x)) w') : CallsN Try.prog 84 [.agg (encWr x).toArray] w K := by
  have cw := cur w
  refine call84 ?_
  unfold encWr
  simp (maxSteps := 4000000) (disch := (first | assumption | exact List.not_mem_nil | exact Fr.refl _ _ | ((repeat (first | assumption | apply cur_alloc | apply cur_setB | apply cur_drew | apply cur_drewN)); done) | omega | (simp only [gz, Value.cells, oneC]; first | done | omega) | ((simp only [List.mem_cons, List.not_mem_nil, or_false, gz]); omega) | rfl)) only [↓gsd, gs, ev, Nat.reduceAdd, Nat.reduceEqDiff, oneC, Value.cells, Option.isNone, gt, ↓hk84]
  refine goodKey_spec ?_
  have hK' := fun o => hK (w.alloc o) ((Fr.refl [] w).alloc o)
  cases h1 : goodKey x.key <;> cases h2 : decide ((x.data.size : Int) ≤ 256) <;> cases h3 : x.has <;>
    simp only [goodWr, h1, h2, h3, Bool.true_and, Bool.false_and, Bool.true_or, Bool.false_or] at hK' <;>
    simp (maxSteps := 4000000) (disch := (first | assumption | exact List.not_mem_nil | exact Fr.refl _ _ | ((repeat (first | assumption | apply cur_alloc | apply cur_setB | apply cur_drew | apply cur_drewN)); done) | omega | (simp only [gz, Value.cells, oneC]; first | done | omega) | ((simp only [List.mem_cons, List.not_mem_nil, or_false, gz]); omega) | rfl)) only [↓gsd, gs, ev, Nat.reduceAdd, Nat.reduceEqDiff, oneC, Value.cells, Option.isNone, gt, ↓hk84, h2, h3] <;> exact hK' _
theorem k9 : KeyOK Try.prog 9 Value.string := keyOK_string Try.runUnderlying9
def dup (l : List ByteArray) : Bool := !decide l.Nodup
def chk (ws : List Wr) : Int := if ws.length = 0 ∨ 8 < ws.length then 1 else if ws.all goodWr then (if (ws.map (·.key)).Nodup then 0 else 22) else 1
theorem dup_snoc (l : List ByteArray) (k : ByteArray) (b : Bool) (h : b = true ↔ k ∈ l) : dup (l ++ [k]) = (dup l || b) := by
  have e : (l ++ [k]).Nodup ↔ l.Nodup ∧ k ∉ l := by
    rw [List.nodup_append]
    constructor
    · rintro ⟨h1, _, h3⟩
      exact ⟨h1, fun hk => h3 k hk k (by simp) rfl⟩
    · rintro ⟨h1, h2⟩
      exact ⟨h1, by simp, fun a ha b hb => by simp at hb; subst hb; exact fun e => h2 (e ▸ ha)⟩
  unfold dup
  by_cases h1 : l.Nodup <;> cases b <;> simp_all
theorem encWr_len (x : Wr) : (encWr x).length = 3 := rfl
theorem check_spec {wv : Value} {ws : List Wr} {w : World} {K : Value → World → Prop} (hw : SlOf 3 encWr w wv ws) (hK : ∀ w', Fr [] w w' → K (.int .i64 (chk ws)) w') : CallsN Try.prog 56 [wv] w K := by
  obtain ⟨a, c, hv⟩ := hw.form
  have cw := cur w
  refine call56 ?_
  by_cases h0 : ws.length = 0
  · have hK' := hK w (Fr.refl _ _)
    have e : chk ws = 1 := by simp [chk, h0]
    rw [e] at hK'
    rw [hv]
    simp (maxSteps := 4000000) (disch := (first | assumption | exact List.not_mem_nil | exact Fr.refl _ _ | ((repeat (first | assumption | apply cur_alloc | apply cur_setB | apply cur_drew | apply cur_drewN)); done) | omega | (simp only [gz, Value.cells, oneC]; first | done | omega) | ((simp only [List.mem_cons, List.not_mem_nil, or_false, gz]); omega) | rfl)) only [↓gsd, gs, ev, Nat.reduceAdd, Nat.reduceEqDiff, oneC, Value.cells, Option.isNone, gt, ↓hk56, h0, Int.natCast_zero, decide_true]
    exact hK'
  · have e0 : decide ((ws.length : Int) = 0) = false := decide_eq_false (by omega)
    by_cases h8 : 8 < ws.length
    · have hK' := hK w (Fr.refl _ _)
      have e : chk ws = 1 := by simp [chk, h8]
      have e8 : decide (8 < (ws.length : Int)) = true := decide_eq_true (by omega)
      rw [e] at hK'
      rw [hv]
      simp (maxSteps := 4000000) (disch := (first | assumption | exact List.not_mem_nil | exact Fr.refl _ _ | ((repeat (first | assumption | apply cur_alloc | apply cur_setB | apply cur_drew | apply cur_drewN)); done) | omega | (simp only [gz, Value.cells, oneC]; first | done | omega) | ((simp only [List.mem_cons, List.not_mem_nil, or_false, gz]); omega) | rfl)) only [↓gsd, gs, ev, Nat.reduceAdd, Nat.reduceEqDiff, oneC, Value.cells, Option.isNone, gt, ↓hk56, e0, e8]
      exact hK'
    · have e8 : decide (8 < (ws.length : Int)) = false := decide_eq_false (by omega)
      have hmk := fun w => map_make (P := Try.prog) (t := 159) (kt' := 9) (et := 3) w
      rw [hv]
      simp (maxSteps := 4000000) (disch := (first | assumption | exact List.not_mem_nil | exact Fr.refl _ _ | ((repeat (first | assumption | apply cur_alloc | apply cur_setB | apply cur_drew | apply cur_drewN)); done) | omega | (simp only [gz, Value.cells, oneC]; first | done | omega) | ((simp only [List.mem_cons, List.not_mem_nil, or_false, gz]); omega) | rfl)) only [↓gsd, gs, ev, Nat.reduceAdd, Nat.reduceEqDiff, oneC, Value.cells, Option.isNone, gt, ↓hk56, e0, e8, hmk]
      rw [← hv]
      refine loop_intro (fun e w' => ∃ (i : Nat) (es : List (ByteArray × Value)), i ≤ ws.length ∧ e 18 = wv ∧ e 19 = .int .i64 ws.length ∧ e 20 = .int .i64 i ∧ e 3 = .map (some w.heap.size) ∧
          e 4 = .bool (dup ((ws.take i).map (·.key))) ∧ ((ws.take i).all goodWr = true) ∧ MapAt Value.string w'.heap[w.heap.size]? es ∧ (∀ k : ByteArray, (aget es k).isSome = true ↔ k ∈ (ws.take i).map (·.key)) ∧ Fr [] w w' ∧ w.heap.size < w'.heap.size)
        (fun e _ => ws.length - (numOf (e 20)).toNat) ?_ ?_
      · refine ⟨0, [], by omega, ?_⟩
        simp (maxSteps := 4000000) (disch := (first | assumption | exact List.not_mem_nil | exact Fr.refl _ _ | ((repeat (first | assumption | apply cur_alloc | apply cur_setB | apply cur_drew | apply cur_drewN)); done) | omega | (simp only [gz, Value.cells, oneC]; first | done | omega) | ((simp only [List.mem_cons, List.not_mem_nil, or_false, gz]); omega) | rfl)) only [↓gsd, gs, ev, Nat.reduceAdd, Nat.reduceEqDiff, oneC, Value.cells, Option.isNone, Int.natCast_zero, List.take_zero, List.map_nil, dup, List.nodup_nil, decide_true, List.all_nil, aget, List.not_mem_nil, Option.isSome_none, implies_true]
        exact ⟨MapAt.empty, (Fr.refl _ _).alloc _, by omega⟩
      · rintro e w1 k ⟨i, es, hi, e18, e19, e20, e3, e4, hgood, hm, hes, hf, hsz⟩ hk
        have cw := cur w1
        by_cases hlt : i < ws.length
        · have el : decide ((i : Int) < (ws.length : Int)) = true := decide_eq_true (by omega)
          obtain ⟨x, hx⟩ : ∃ x, ws[i]? = some x := ⟨ws[i], List.getElem?_eq_getElem hlt⟩
          obtain ⟨b, off, cap, o, hb, ho, hbl, hrow, hcell⟩ := (hw.frN hf).read encWr_len i x hx
          have i0 : (0 : Int) ≤ (i : Int) := by omega
          have i1 : (i : Int) < (ws.length : Int) := by omega
          have hrow' := fun orig K => hrow orig K
          simp (maxSteps := 4000000) (disch := (first | assumption | exact List.not_mem_nil | exact Fr.refl _ _ | ((repeat (first | assumption | apply cur_alloc | apply cur_setB | apply cur_drew | apply cur_drewN)); done) | omega | (simp only [gz, Value.cells, oneC]; first | done | omega) | ((simp only [List.mem_cons, List.not_mem_nil, or_false, gz]); omega) | rfl)) only [↓gsd, gs, ev, Nat.reduceAdd, Nat.reduceEqDiff, oneC, Value.cells, Option.isNone, gt, ↓hk56, e18, e19, e20, hb, i0, i1, Int.toNat_natCast, ho, hrow', encWr]
          refine goodWr_spec (x := x) ?_
          intro w2 hf2
          have cw2 := cur w2
          have hz2 := hf2.size
          simp only [gz] at hz2
          cases hg : goodWr x with
          | false =>
            have hf3 : Fr [] w w2 := (hf.alloc _).trans' hf2
            have e : chk ws = 1 := by
              have : ws.all goodWr = false := by
                rw [List.all_eq_false]
                exact ⟨x, List.mem_of_getElem? hx, by simp [hg]⟩
              simp [chk, h0, h8, this]
            have hK' := hK w2 hf3
            rw [e] at hK'
            simp (maxSteps := 4000000) (disch := (first | assumption | exact List.not_mem_nil | exact Fr.refl _ _ | ((repeat (first | assumption | apply cur_alloc | apply cur_setB | apply cur_drew | apply cur_drewN)); done) | omega | (simp only [gz, Value.cells, oneC]; first | done | omega) | ((simp only [List.mem_cons, List.not_mem_nil, or_false, gz]); omega) | rfl)) only [↓gsd, gs, ev, Nat.reduceAdd, Nat.reduceEqDiff, oneC, Value.cells, Option.isNone, gt, ↓hk56]
            exact hK'
          | true =>
            have hb2 := hf2.getN (get_alloc_new w1 _)
            have hm2 : MapAt Value.string w2.heap[w.heap.size]? es := by
              rw [hf2.keepN _ (by rw [size_alloc]; omega), get_alloc_old _ _ _ hsz]; exact hm
            have hl := fun k => map_lookup2 Try.runUnderlying159 k9 Try.zeroValue3 hm2 k
            obtain ⟨o2, hup, hm3⟩ := map_update Try.runUnderlying159 k9 hm2 x.key (.int .i64 i)
            have hgood' : (ws.take (i + 1)).all goodWr = true := by
              rw [List.take_add_one, hx]; simp [hgood, hg]
            have hkeys : (ws.take (i + 1)).map (·.key) = (ws.take i).map (·.key) ++ [x.key] := by
              rw [List.take_add_one, hx]; simp
            have hdup : dup ((ws.take (i + 1)).map (·.key)) = (dup ((ws.take i).map (·.key)) || (aget es x.key).isSome) := by
              rw [hkeys]; exact dup_snoc _ _ _ (hes x.key)
            have hf3 : Fr [] w (w2.setB w.heap.size o2) := ((hf.alloc _).trans' hf2).setB _ _ (.inr (Nat.le_refl _))
            have hes' : ∀ k : ByteArray, (aget (aset es x.key (.int .i64 i)) k).isSome = true ↔ k ∈ (ws.take (i + 1)).map (·.key) := by
              intro k
              rw [hkeys, aget_aset, List.mem_append, List.mem_singleton, ← hes k]
              by_cases h : x.key = k
              · simp [h]
              · have h' : ¬ k = x.key := fun e => h e.symm
                simp [h, h']
            have hm4 : MapAt Value.string (w2.setB w.heap.size o2).heap[w.heap.size]? (aset es x.key (.int .i64 i)) := by
              rw [get_setB_same _ _ _ (by omega)]; exact hm3
            cases hd : dup ((ws.take i).map (·.key)) <;> rw [hd] at hdup e4 <;> simp only [Bool.true_or, Bool.false_or] at hdup
            all_goals
              simp (maxSteps := 4000000) (disch := (first | assumption | exact List.not_mem_nil | exact Fr.refl _ _ | ((repeat (first | assumption | apply cur_alloc | apply cur_setB | apply cur_drew | apply cur_drewN)); done) | omega | (simp only [gz, Value.cells, oneC]; first | done | omega) | ((simp only [List.mem_cons, List.not_mem_nil, or_false, gz]); omega) | rfl)) only [↓gsd, gs, ev, Nat.reduceAdd, Nat.reduceEqDiff, oneC, Value.cells, Option.isNone, gt, ↓hk56, e3, e4, e20, hb2, hl, encWr, hup]
              refine hk _ _ ⟨i + 1, _, by omega, ?_, ?_, ?_, ?_, ?_, hgood', hm4, hes', hf3, by rw [size_setB]; omega⟩ ?_
              all_goals simp (maxSteps := 4000000) (disch := (first | assumption | exact List.not_mem_nil | exact Fr.refl _ _ | ((repeat (first | assumption | apply cur_alloc | apply cur_setB | apply cur_drew | apply cur_drewN)); done) | omega | (simp only [gz, Value.cells, oneC]; first | done | omega) | ((simp only [List.mem_cons, List.not_mem_nil, or_false, gz]); omega) | rfl)) only [↓gsd, gs, ev, Nat.reduceAdd, Nat.reduceEqDiff, oneC, Value.cells, Option.isNone, e18, e19, e20, e3, hdup, numOf, Int.toNat_natCast, Int.natCast_add, Int.natCast_one]
              omega
        · have el : decide ((i : Int) < (ws.length : Int)) = false := decide_eq_false (by omega)
          have hw0 : ws.take i = ws := List.take_of_length_le (by omega)
          rw [hw0] at e4 hgood
          have i1 : ¬ (i : Int) < (ws.length : Int) := by omega
          have hK' := hK w1 hf
          cases hd : dup (ws.map (·.key)) <;> rw [hd] at e4
          · have e : chk ws = 0 := by
              have : (ws.map (·.key)).Nodup := by simpa [dup] using hd
              simp [chk, h0, h8, hgood, this]
            rw [e] at hK'
            simp (maxSteps := 4000000) (disch := (first | assumption | exact List.not_mem_nil | exact Fr.refl _ _ | ((repeat (first | assumption | apply cur_alloc | apply cur_setB | apply cur_drew | apply cur_drewN)); done) | omega | (simp only [gz, Value.cells, oneC]; first | done | omega) | ((simp only [List.mem_cons, List.not_mem_nil, or_false, gz]); omega) | rfl)) only [↓gsd, gs, ev, Nat.reduceAdd, Nat.reduceEqDiff, oneC, Value.cells, Option.isNone, gt, ↓hk56, e18, e19, e20, e4, i1]
            exact hK'
          · have e : chk ws = 22 := by
              have : ¬ (ws.map (·.key)).Nodup := by simpa [dup] using hd
              simp [chk, h0, h8, hgood, this]
            rw [e] at hK'
            simp (maxSteps := 4000000) (disch := (first | assumption | exact List.not_mem_nil | exact Fr.refl _ _ | ((repeat (first | assumption | apply cur_alloc | apply cur_setB | apply cur_drew | apply cur_drewN)); done) | omega | (simp only [gz, Value.cells, oneC]; first | done | omega) | ((simp only [List.mem_cons, List.not_mem_nil, or_false, gz]); omega) | rfl)) only [↓gsd, gs, ev, Nat.reduceAdd, Nat.reduceEqDiff, oneC, Value.cells, Option.isNone, gt, ↓hk56, e18, e19, e20, e4, i1]
            exact hK'
end Go.Proofs.Ytenokheiindfkaa
