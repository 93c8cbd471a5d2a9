/- The generic engine, part 9: arguments that are slices, opened. -/
import Derived.Test.YtbbjnplellanaaaDoorC8
import Derived.Deep.Slices
import Derived.ChangeArms
set_option linter.unusedVariables false
set_option linter.unusedSimpArgs false
set_option linter.unusedSectionVars false
namespace Go.VW
noncomputable section
section
variable {H : Type} {ec : TypeId × Value → H} {P : Program} {w : World} {base : Nat} {spare : Nat → Bool} {held : Bool}
theorem choose_lt' {α : Type} {p : Nat → α → Prop} : ∀ (n : Nat), (∀ i, i < n → ∃ a, p i a) → ∃ l : List α, l.length = n ∧ ∀ i a, l[i]? = some a → p i a
  | 0, _ => ⟨[], rfl, by simp⟩
  | n + 1, h => by
    obtain ⟨l, h1, h2⟩ := choose_lt' n (fun i hi => h i (by omega))
    obtain ⟨a, ha⟩ := h n (by omega)
    refine ⟨l ++ [a], by simp [h1], fun i b hb => ?_⟩
    rcases Nat.lt_or_ge i l.length with hi | hi
    · rw [List.getElem?_append_left hi] at hb; exact h2 i b hb
    · rw [List.getElem?_append_right hi] at hb
      cases hq : i - l.length with
      | zero => rw [hq] at hb; simp at hb; subst hb; have : i = n := by omega
                rw [this]; exact ha
      | succ q => rw [hq] at hb; simp at hb
/-- A slice that came in, as a list of elements. -/
theorem open_slOf {α : Type} {enc : α → List Value} {t e : TypeId} {k fuel : Nat} {cs : List Value} {x : DataW H × List MemPlace} (R : Nat → α → Prop) (ht : P.underlying t = some (.slice e)) (hk : P.cellsOf e = k) (hpos : 0 < k) (hlen : ∀ a, (enc a).length = k)
    (hop : ∀ (n : Nat) cs' y, DataW.trod ec P w base spare held n e cs' = some y → ∃ a, cs' = enc a ∧ ∀ i, R i a) (h : DataW.trod ec P w base spare held fuel t cs = some x) :
    ∃ v xs, cs = [v] ∧ SlOf k enc w v xs ∧ xs.length ≤ maxLen ∧ ∀ (i : Nat) a, xs[i]? = some a → R i a := by
  rcases Go.Deep.open_slice ht h with ⟨rfl, _⟩ | ⟨a, len, cap, m, n, D, Pl, rfl, hb, hl, hm, hmm, _, hx⟩
  · exact ⟨_, [], rfl, Sl.nil, by simp, by simp⟩
  · have hlm : len ≤ m := by rw [hmm]; split <;> omega
    obtain ⟨l, hl1, hl2⟩ := choose_lt' (p := fun i b => w.cells? base (a.add (i * k)) k = some (enc b) ∧ ∀ i, R i b) len (fun i hi => by
      obtain ⟨cs', h1, h2⟩ := hx i (by omega)
      obtain ⟨b, rfl, hR⟩ := hop _ _ _ h2
      rw [hk] at h1
      exact ⟨b, h1, hR⟩)
    refine ⟨_, l, rfl, ?_, by omega, fun i b hb => (hl2 i b hb).2 i⟩
    subst hl1
    have hcl := cellsOf_length hlen l
    by_cases h0 : l = []
    · subst h0
      exact ⟨by simp [cellsOf], .inl ⟨rfl, _, _, rfl⟩⟩
    · have hpos' : 0 < l.length := List.length_pos_iff.2 h0
      have hcell : ∀ i b, l[i]? = some b → ∀ j, j < k → w.cell? ((a.add (i * k)).add j) = (enc b)[j]? := fun i b hb j hj => by
        have := (World.cells?_some (hl2 i b hb).1).2.2 j hj
        exact this
      obtain ⟨b0, hb0⟩ : ∃ b0, l[0]? = some b0 := ⟨l[0], List.getElem?_eq_getElem hpos'⟩
      have hfirst := hcell 0 b0 hb0 0 hpos
      rw [List.getElem?_eq_getElem (by rw [hlen]; exact hpos)] at hfirst
      obtain ⟨bb, off, spot⟩ := a
      have hsp : spot = none := by
        have h1 : w.cell? ⟨bb, off, spot⟩ = some ((enc b0)[0]'(by rw [hlen]; exact hpos)) := by simpa [Addr.add] using hfirst
        exact World.cell?_spot h1
      subst hsp
      have hobj : ∃ c et fr, w.heap[bb]? = some (.cells c et fr) := by
        simp only [add_at, World.cell?] at hfirst
        split at hfirst
        · rename_i c et fr hh
          exact ⟨c, et, fr, hh⟩
        · cases hfirst
      obtain ⟨c, et, fr, hc⟩ := hobj
      refine ⟨hcl, .inr ⟨bb, off, cap, c, et, fr, rfl, hc, ?_⟩⟩
      apply List.ext_getElem?
      intro q
      by_cases hq : q < l.length * k
      · rw [List.getElem?_take, if_pos hq, List.getElem?_drop]
        have hi : q / k < l.length := Nat.div_lt_of_lt_mul (by rw [Nat.mul_comm]; exact hq)
        have hj : q % k < k := Nat.mod_lt _ hpos
        obtain ⟨b, hb'⟩ : ∃ b, l[q / k]? = some b := ⟨l[q / k], List.getElem?_eq_getElem hi⟩
        have h1 := hcell (q / k) b hb' (q % k) hj
        have h2 := cellsOf_get hlen l (q / k) b hb' (q % k) hj
        have e : q / k * k + q % k = q := by rw [Nat.mul_comm]; exact Nat.div_add_mod q k
        rw [e] at h2
        rw [h2, ← h1]
        simp only [add_at, World.cell?, hc]
        rw [Nat.add_assoc, e]
        simp
      · rw [List.getElem?_take, if_neg hq, List.getElem?_eq_none (by omega)]
/-- As open_slOf, with what the reading holds of each element. -/
theorem open_slOfD {α : Type} {enc : α → List Value} {t e : TypeId} {k fuel : Nat} {cs : List Value} {x : DataW H × List MemPlace} (R : DataW H → α → Prop) (ht : P.underlying t = some (.slice e)) (hk : P.cellsOf e = k) (hpos : 0 < k) (hlen : ∀ a, (enc a).length = k)
    (hop : ∀ (n : Nat) cs' y, DataW.trod ec P w base spare held n e cs' = some y → ∃ a, cs' = enc a ∧ R y.1 a) (h : DataW.trod ec P w base spare held fuel t cs = some x) :
    ∃ v xs, cs = [v] ∧ SlOf k enc w v xs ∧ xs.length ≤ maxLen ∧ ((x.1 = .nil ∧ xs = []) ∨ ∃ els sp, x.1 = .slice els sp ∧ xs.length ≤ els.length ∧ ∀ (i : Nat) a, xs[i]? = some a → ∃ d ∈ els, R d a) := by
  rcases Go.Deep.open_slice ht h with ⟨rfl, rfl⟩ | ⟨a, len, cap, m, n, D, Pl, rfl, hb, hl, hm, hmm, rfl, hx⟩
  · exact ⟨_, [], rfl, Sl.nil, by simp, .inl ⟨rfl, rfl⟩⟩
  · have hlm : len ≤ m := by rw [hmm]; split <;> omega
    obtain ⟨l, hl1, hl2⟩ := choose_lt' (p := fun i b => w.cells? base (a.add (i * k)) k = some (enc b) ∧ R (D i) b) len (fun i hi => by
      obtain ⟨cs', h1, h2⟩ := hx i (by omega)
      obtain ⟨b, rfl, hR⟩ := hop _ _ _ h2
      rw [hk] at h1
      exact ⟨b, h1, hR⟩)
    refine ⟨_, l, rfl, ?_, by omega, .inr ⟨_, _, rfl, by simp; omega, fun i b hb => ⟨D i, List.mem_map.2 ⟨i, by rw [List.mem_range, ← hl1]; exact (List.getElem?_eq_some_iff.1 hb).1, rfl⟩, (hl2 i b hb).2⟩⟩⟩
    subst hl1
    have hcl := cellsOf_length hlen l
    by_cases h0 : l = []
    · subst h0
      exact ⟨by simp [cellsOf], .inl ⟨rfl, _, _, rfl⟩⟩
    · have hpos' : 0 < l.length := List.length_pos_iff.2 h0
      have hcell : ∀ i b, l[i]? = some b → ∀ j, j < k → w.cell? ((a.add (i * k)).add j) = (enc b)[j]? := fun i b hb j hj => by
        have := (World.cells?_some (hl2 i b hb).1).2.2 j hj
        exact this
      obtain ⟨b0, hb0⟩ : ∃ b0, l[0]? = some b0 := ⟨l[0], List.getElem?_eq_getElem hpos'⟩
      have hfirst := hcell 0 b0 hb0 0 hpos
      rw [List.getElem?_eq_getElem (by rw [hlen]; exact hpos)] at hfirst
      obtain ⟨bb, off, spot⟩ := a
      have hsp : spot = none := by
        have h1 : w.cell? ⟨bb, off, spot⟩ = some ((enc b0)[0]'(by rw [hlen]; exact hpos)) := by simpa [Addr.add] using hfirst
        exact World.cell?_spot h1
      subst hsp
      have hobj : ∃ c et fr, w.heap[bb]? = some (.cells c et fr) := by
        simp only [add_at, World.cell?] at hfirst
        split at hfirst
        · rename_i c et fr hh
          exact ⟨c, et, fr, hh⟩
        · cases hfirst
      obtain ⟨c, et, fr, hc⟩ := hobj
      refine ⟨hcl, .inr ⟨bb, off, cap, c, et, fr, rfl, hc, ?_⟩⟩
      apply List.ext_getElem?
      intro q
      by_cases hq : q < l.length * k
      · rw [List.getElem?_take, if_pos hq, List.getElem?_drop]
        have hi : q / k < l.length := Nat.div_lt_of_lt_mul (by rw [Nat.mul_comm]; exact hq)
        have hj : q % k < k := Nat.mod_lt _ hpos
        obtain ⟨b, hb'⟩ : ∃ b, l[q / k]? = some b := ⟨l[q / k], List.getElem?_eq_getElem hi⟩
        have h1 := hcell (q / k) b hb' (q % k) hj
        have h2 := cellsOf_get hlen l (q / k) b hb' (q % k) hj
        have e : q / k * k + q % k = q := by rw [Nat.mul_comm]; exact Nat.div_add_mod q k
        rw [e] at h2
        rw [h2, ← h1]
        simp only [add_at, World.cell?, hc]
        rw [Nat.add_assoc, e]
        simp
      · rw [List.getElem?_take, if_neg hq, List.getElem?_eq_none (by omega)]
end
end
end Go.VW
