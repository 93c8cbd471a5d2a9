/- The plain law of GapWhole: what is put in, all of it, comes out. -/
import Derived.Test.YtenokheiindfkaaM2
set_option linter.unusedVariables false
set_option linter.unusedSimpArgs false
set_option maxRecDepth 10000
namespace Go.Proofs.Ytenokheiindfkaa
open Go.VW
def seen {α : Type} (a : Int) (ws : List (Int × α)) (x : Int) : Prop := (1 ≤ x ∧ x ≤ a) ∨ x ∈ ws.map (·.1)
theorem mem_adel {α : Type} (ws : List (Int × α)) (hn : (ws.map (·.1)).Nodup) (k x : Int) : x ∈ (adel ws k).map (·.1) ↔ x ∈ ws.map (·.1) ∧ x ≠ k := by
  rw [keys_adel ws k hn, List.mem_filter]
  simp
theorem drain_seen {α : Type} : ∀ (f : Nat) (a : Int) (ws : List (Int × α)), 0 ≤ a → (ws.map (·.1)).Nodup → ∀ x, seen (drain f a ws).2.1 (drain f a ws).2.2 x ↔ seen a ws x
  | 0, a, ws, _, _, x => Iff.rfl
  | f + 1, a, ws, ha, hn, x => by
    cases hg : aget ws (a + 1) with
    | none => simp only [drain, hg]
    | some v =>
      simp only [drain, hg]
      rw [drain_seen f (a + 1) (adel ws (a + 1)) (by omega) (nodup_adel ws (a + 1) hn) x]
      unfold seen
      rw [mem_adel ws hn]
      have hm : a + 1 ∈ ws.map (·.1) := List.mem_map.2 ⟨_, aget_mem _ _ hg, rfl⟩
      constructor
      · rintro (h | h)
        · by_cases hx : x = a + 1
          · subst hx; exact .inr hm
          · exact .inl (by omega)
        · exact .inr h.1
      · rintro (h | h)
        · exact .inl (by omega)
        · by_cases hx : x = a + 1
          · subst hx; exact .inl (by omega)
          · exact .inr ⟨h, hx⟩
structure WholeOk {α : Type} (n : Int) (g : GS α) (r : (List α × Bool) × GS α) : Prop where
  over : r.1.2 = false
  seen_ : ∀ x, seen r.2.at_ r.2.ws x ↔ seen g.at_ g.ws x ∨ x = n
  len : r.2.ws.length ≤ g.ws.length + 1
theorem whole_put {α : Type} {g : GS α} (h : g.WF) {n : Int} (v : α) (h0 : 1 ≤ n) (h1 : n ≤ 1099511627776) (hnot : ¬ seen g.at_ g.ws n) (hl : g.ws.length < g.most) : WholeOk n g (g.put n v) := by
  unfold seen at hnot
  simp only [not_or] at hnot
  have hno : aget g.ws n = none := (aget_none _ _).2 hnot.2
  have hc : ¬ (n ≤ g.at_ ∨ 1099511627776 < n ∨ (aget g.ws n).isSome) := by rw [hno]; simp; omega
  unfold GS.put
  rw [if_neg hc]
  split
  · rename_i hn
    obtain ⟨i1, i2, i3, i4, i5, i6, i7⟩ := drain_ok g.ws.length n g.ws (Nat.le_refl _) h.nd (fun p hp => by have := h.rng p hp; omega) h1
    refine ⟨rfl, fun x => ?_, by show (drain _ _ _).2.2.length ≤ g.ws.length + 1; omega⟩
    rw [drain_seen g.ws.length n g.ws (by omega) h.nd x]
    unfold seen
    constructor
    · rintro (h | h)
      · by_cases hx : x = n
        · exact .inr hx
        · exact .inl (.inl (by omega))
      · exact .inl (.inr h)
    · rintro ((h | h) | h)
      · exact .inl (by omega)
      · exact .inr h
      · subst h; exact .inl (by omega)
  · rename_i hn
    rw [if_neg (by omega)]
    refine ⟨rfl, fun x => ?_, by simp⟩
    unfold seen
    simp only [List.map_append, List.map_cons, List.map_nil, List.mem_append, List.mem_singleton]
    constructor
    · rintro (h | h | h)
      · exact .inl (.inl h)
      · exact .inl (.inr h)
      · exact .inr h
    · rintro ((h | h) | h)
      · exact .inl h
      · exact .inr (.inl h)
      · exact .inr (.inr h)
theorem whole_end {α : Type} {g : GS α} (h : g.WF) {n : Int} (h0 : 0 ≤ n) (hs : ∀ x, seen g.at_ g.ws x ↔ 1 ≤ x ∧ x ≤ n) : g.at_ = n ∧ g.ws.length = 0 := by
  have ha := h.a0
  have h1 : g.at_ ≤ n := by
    by_cases h2 : g.at_ = 0
    · omega
    · exact ((hs g.at_).1 (.inl ⟨by omega, Int.le_refl _⟩)).2
  have h2 : n ≤ g.at_ := by
    refine Int.le_of_not_gt fun hlt => ?_
    rcases (hs (g.at_ + 1)).2 ⟨by omega, by omega⟩ with h3 | h3
    · omega
    · obtain ⟨p, hp, e⟩ := List.mem_map.1 h3
      have := h.rng p hp
      omega
  refine ⟨by omega, ?_⟩
  cases hw : g.ws with
  | nil => rfl
  | cons p t =>
    have hp : p ∈ g.ws := by rw [hw]; exact List.mem_cons_self ..
    have h3 := h.rng p hp
    have := (hs p.1).1 (.inr (List.mem_map.2 ⟨p, hp, rfl⟩))
    omega
def base (n : Nat) : List Int := (List.range n).map fun j : Nat => (j : Int) + 1
theorem base_mem (n : Nat) (x : Int) : x ∈ base n ↔ 1 ≤ x ∧ x ≤ n := by
  unfold base
  rw [List.mem_map]
  constructor
  · rintro ⟨j, hj, rfl⟩
    have := List.mem_range.1 hj
    omega
  · intro h
    exact ⟨(x - 1).toNat, List.mem_range.2 (by omega), by omega⟩
theorem base_nodup (n : Nat) : (base n).Nodup := by
  unfold base List.Nodup
  rw [List.pairwise_map]
  exact List.nodup_range.imp fun h e => h (by omega)
theorem base_len (n : Nat) : (base n).length = n := by simp [base]
theorem base_succ (n : Nat) : base (n + 1) = base n ++ [(n : Int) + 1] := by simp [base, List.range_succ]
theorem swap_perm (L : List Int) (k m : Nat) (x y : Int) (hk : L[k]? = some x) (hm : L[m]? = some y) : ((L.set k y).set m x).Perm L := by
  obtain ⟨h1, h1'⟩ := List.getElem?_eq_some_iff.1 hk
  obtain ⟨h2, h2'⟩ := List.getElem?_eq_some_iff.1 hm
  have := Array.swap_perm (xs := L.toArray) (i := k) (j := m) (by simpa using h1) (by simpa using h2)
  have := Array.perm_iff_toList_perm.1 this
  simpa [Array.swap, h1', h2'] using this
end Go.Proofs.Ytenokheiindfkaa
