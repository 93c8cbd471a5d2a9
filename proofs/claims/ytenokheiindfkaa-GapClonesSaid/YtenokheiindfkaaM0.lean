/- The gap, plainly: what waits is a list of numbers with things. -/
import Derived.Test.YtenokheiindfkaaCA
set_option linter.unusedVariables false
set_option linter.unusedSimpArgs false
set_option maxRecDepth 10000
namespace Go.Proofs.Ytenokheiindfkaa
open Go.VW
section
variable {κ α β : Type} [DecidableEq κ]
theorem aset_new (l : List (κ × α)) (k : κ) (v : α) (h : aget l k = none) : aset l k v = l ++ [(k, v)] := by
  induction l with
  | nil => rfl
  | cons p r ih =>
    by_cases hp : p.1 = k
    · simp [aget, hp] at h
    · simp only [aget, hp, if_false] at h
      simp [aset, hp, ih h]
theorem aget_map (l : List (κ × α)) (f : α → β) (k : κ) : aget (l.map fun p => (p.1, f p.2)) k = (aget l k).map f := by
  induction l with
  | nil => rfl
  | cons p r ih =>
    by_cases hp : p.1 = k <;> simp [aget, hp, ih]
theorem adel_map (l : List (κ × α)) (f : α → β) (k : κ) : adel (l.map fun p => (p.1, f p.2)) k = (adel l k).map fun p => (p.1, f p.2) := by
  induction l with
  | nil => rfl
  | cons p r ih =>
    by_cases hp : p.1 = k <;> simp [adel, hp, ih]
theorem adel_len (l : List (κ × α)) (k : κ) : (adel l k).length = if (aget l k).isSome then l.length - 1 else l.length := by
  induction l with
  | nil => rfl
  | cons p r ih =>
    by_cases hp : p.1 = k
    · simp [adel, aget, hp]
    · simp only [adel, aget, hp, if_false, List.length_cons, ih]
      split
      · rename_i h
        cases r with
        | nil => simp [aget] at h
        | cons _ _ => simp
      · rfl
theorem adel_mem (l : List (κ × α)) (k : κ) {p : κ × α} (h : p ∈ adel l k) : p ∈ l := by
  induction l with
  | nil => exact h
  | cons q r ih =>
    by_cases hq : q.1 = k
    · simp only [adel, hq, if_true] at h; exact List.mem_cons_of_mem _ h
    · simp only [adel, hq, if_false] at h
      rcases List.mem_cons.1 h with h | h
      · subst h; exact List.mem_cons_self ..
      · exact List.mem_cons_of_mem _ (ih h)
theorem aget_mem (l : List (κ × α)) (k : κ) {v : α} (h : aget l k = some v) : (k, v) ∈ l := by
  induction l with
  | nil => simp [aget] at h
  | cons q r ih =>
    by_cases hq : q.1 = k
    · simp only [aget, hq, if_true, Option.some.injEq] at h
      subst h; subst hq; exact List.mem_cons_self ..
    · simp only [aget, hq, if_false] at h
      exact List.mem_cons_of_mem _ (ih h)
end
section
variable {α : Type}
/-- A gap: the number that was given out last, how many may wait, what waits. -/
structure GS (α : Type) where
  at_ : Int
  most : Nat
  ws : List (Int × α)
def clamp (a : Int) : Int := min (max a 0) 1099511627776
def GS.new (a m : Int) : GS α := ⟨clamp a, (min (max m 0) 256).toNat, []⟩
def GS.clear (g : GS α) (a : Int) : GS α := ⟨clamp a, g.most, []⟩
/-- What is given out behind a number. -/
def drain : Nat → Int → List (Int × α) → List α × Int × List (Int × α)
  | 0, a, ws => ([], a, ws)
  | f + 1, a, ws => match aget ws (a + 1) with
    | none => ([], a, ws)
    | some v => (v :: (drain f (a + 1) (adel ws (a + 1))).1, (drain f (a + 1) (adel ws (a + 1))).2)
def GS.put (g : GS α) (n : Int) (v : α) : (List α × Bool) × GS α :=
  if n ≤ g.at_ ∨ 1099511627776 < n ∨ (aget g.ws n).isSome then (([], false), g)
  else if n = g.at_ + 1 then ((v :: (drain g.ws.length n g.ws).1, false), ⟨(drain g.ws.length n g.ws).2.1, g.most, (drain g.ws.length n g.ws).2.2⟩)
  else if g.most ≤ g.ws.length then (([], true), ⟨g.at_, g.most, []⟩)
  else (([], false), ⟨g.at_, g.most, g.ws ++ [(n, v)]⟩)
structure GS.WF (g : GS α) : Prop where
  a0 : 0 ≤ g.at_
  a1 : g.at_ ≤ 1099511627776
  m : g.most ≤ 256
  nd : (g.ws.map (·.1)).Nodup
  rng : ∀ p ∈ g.ws, g.at_ + 1 < p.1 ∧ p.1 ≤ 1099511627776
  len : g.ws.length ≤ g.most
theorem clamp_range (a : Int) : 0 ≤ clamp a ∧ clamp a ≤ 1099511627776 := by unfold clamp; omega
theorem GS.new_wf (a m : Int) : (GS.new (α := α) a m).WF :=
  ⟨(clamp_range a).1, (clamp_range a).2, by simp only [GS.new]; omega, by simp [GS.new], by simp [GS.new], by simp [GS.new]⟩
theorem GS.WF.clear {g : GS α} (h : g.WF) (a : Int) : (g.clear a).WF := ⟨(clamp_range a).1, (clamp_range a).2, h.m, by simp [GS.clear], by simp [GS.clear], by simp [GS.clear]⟩
/-- Behind a drain. -/
theorem drain_ok : ∀ (f : Nat) (a : Int) (ws : List (Int × α)), ws.length ≤ f → (ws.map (·.1)).Nodup → (∀ p ∈ ws, a < p.1 ∧ p.1 ≤ 1099511627776) → a ≤ 1099511627776 →
    a ≤ (drain f a ws).2.1 ∧ (drain f a ws).2.1 ≤ 1099511627776 ∧ ((drain f a ws).2.2.map (·.1)).Nodup ∧ (∀ p ∈ (drain f a ws).2.2, (drain f a ws).2.1 + 1 < p.1 ∧ p.1 ≤ 1099511627776 ∧ p ∈ ws) ∧ (drain f a ws).2.2.length ≤ ws.length ∧ (drain f a ws).1.length + (drain f a ws).2.2.length = ws.length ∧ (drain f a ws).2.1 = a + (drain f a ws).1.length
  | 0, a, ws, hl, hn, hr, ha => by
    have : ws = [] := List.eq_nil_of_length_eq_zero (by omega)
    subst this
    simp [drain]; omega
  | f + 1, a, ws, hl, hn, hr, ha => by
    cases hg : aget ws (a + 1) with
    | none =>
      simp only [drain, hg]
      refine ⟨by omega, ha, hn, fun p hp => ?_, by omega, by simp, by simp⟩
      have h1 := hr p hp
      have h2 : p.1 ≠ a + 1 := fun e => (aget_none ws (a + 1)).1 hg (List.mem_map.2 ⟨p, hp, e⟩)
      exact ⟨by omega, h1.2, hp⟩
    | some v =>
      have hm := aget_mem _ _ hg
      have h1 := (hr _ hm).2
      simp only at h1
      have hlen : (adel ws (a + 1)).length = ws.length - 1 := by rw [adel_len, hg]; rfl
      have hpos : 0 < ws.length := List.length_pos_of_mem hm
      have hnd := nodup_adel ws (a + 1) hn
      obtain ⟨i1, i2, i3, i4, i5, i6, i7⟩ := drain_ok f (a + 1) (adel ws (a + 1)) (by omega) hnd (fun p hp => by
        have h2 := hr p (adel_mem _ _ hp)
        have h3 : p.1 ≠ a + 1 := fun e => by
          have := (mem_keys_aget (adel ws (a + 1)) (a + 1)).1 (List.mem_map.2 ⟨p, hp, e⟩)
          rw [aget_adel ws hn] at this
          simp at this
        omega) (by omega)
      simp only [drain, hg]
      refine ⟨by omega, i2, i3, fun p hp => ?_, by omega, ?_, ?_⟩
      · have := i4 p hp
        exact ⟨this.1, this.2.1, adel_mem _ _ this.2.2⟩
      · simp; omega
      · simp; omega
theorem GS.WF.put {g : GS α} (h : g.WF) (n : Int) (v : α) : (g.put n v).2.WF := by
  unfold GS.put
  split
  · exact h
  · rename_i h1
    simp only [not_or, Int.not_le, Int.not_lt] at h1
    obtain ⟨h1, h2, h3⟩ := h1
    have h3' : aget g.ws n = none := by cases hq : aget g.ws n <;> simp [hq] at h3 ⊢
    split
    · rename_i hn
      obtain ⟨i1, i2, i3, i4, i5, i6, i7⟩ := drain_ok g.ws.length n g.ws (Nat.le_refl _) h.nd (fun p hp => by have := h.rng p hp; omega) h2
      exact ⟨by have := h.a0; show 0 ≤ (drain _ _ _).2.1; omega, i2, h.m, i3, fun p hp => ⟨(i4 p hp).1, (i4 p hp).2.1⟩, by have := h.len; show (drain _ _ _).2.2.length ≤ g.most; omega⟩
    · rename_i hn
      split
      · exact ⟨h.a0, h.a1, h.m, by simp, by simp, by simp⟩
      · rename_i hl
        refine ⟨h.a0, h.a1, h.m, ?_, ?_, ?_⟩
        · show ((g.ws ++ [(n, v)]).map (·.1)).Nodup
          rw [List.map_append, List.nodup_append]
          refine ⟨h.nd, by simp, fun a ha b hb e => ?_⟩
          simp at hb
          subst hb; subst e
          exact (aget_none g.ws a).1 h3' ha
        · intro p hp
          rcases List.mem_append.1 hp with hp | hp
          · exact h.rng p hp
          · simp at hp; subst hp; exact ⟨by show g.at_ + 1 < n; omega, h2⟩
        · show (g.ws ++ [(n, v)]).length ≤ g.most
          simp; omega
end
end Go.Proofs.Ytenokheiindfkaa
