/- What lacks, put in, plainly. -/
import Derived.Test.YtenokheiindfkaaM2
set_option linter.unusedVariables false
set_option linter.unusedSimpArgs false
set_option maxRecDepth 10000
namespace Go.Proofs.Ytenokheiindfkaa
open Go.VW
variable {α : Type}
theorem head_le {l : List Int} {y : Int} (h : (sortI l)[0]? = some y) : ∀ x ∈ l, y ≤ x := by
  intro x hx
  have hs : (sortI l).Pairwise (fun a b => decide (a ≤ b) = true) := List.pairwise_mergeSort (fun a b c h1 h2 => by simp only [decide_eq_true_eq] at *; omega) (fun a b => by simp only [Bool.or_eq_true, decide_eq_true_eq]; omega) l
  have hx' := (sortI_mem l x).2 hx
  cases hl : sortI l with
  | nil => rw [hl] at hx'; cases hx'
  | cons a t =>
    rw [hl] at h hx' hs
    simp at h
    subst h
    rcases List.mem_cons.1 hx' with h1 | h1
    · omega
    · have := (List.pairwise_cons.1 hs).1 x h1
      simpa using this
structure LacksOk (n y : Int) (g : GS α) (r : (List α × Bool) × GS α) : Prop where
  over : r.1.2 = false
  mid : n + 1 < y → r.2 = ⟨n, g.most, g.ws⟩
  fin : n + 1 = y → y ≤ r.2.at_ ∧ r.2.ws.length < g.ws.length
theorem lacks_wf {g : GS α} (h : g.WF) {y n : Int} (hy : (sortI (g.ws.map (·.1)))[0]? = some y) (h0 : g.at_ < n) (h1 : n < y) (hym : y ≤ 1099511627776) : (⟨n - 1, g.most, g.ws⟩ : GS α).WF := by
  have ha := h.a0
  refine ⟨by show 0 ≤ n - 1; omega, by show n - 1 ≤ _; omega, h.m, h.nd, fun p hp => ⟨?_, (h.rng p hp).2⟩, h.len⟩
  have := head_le hy p.1 (List.mem_map.2 ⟨p, hp, rfl⟩)
  show n - 1 + 1 < p.1
  omega
theorem lacks_put {g : GS α} (h : g.WF) {y n : Int} (v : α) (hy : (sortI (g.ws.map (·.1)))[0]? = some y) (h0 : g.at_ < n) (h1 : n < y) (hym : y ≤ 1099511627776) : LacksOk n y g ((⟨n - 1, g.most, g.ws⟩ : GS α).put n v) := by
  have hno : aget g.ws n = none := by
    cases hg : aget g.ws n with
    | none => rfl
    | some x =>
      have := head_le hy n (List.mem_map.2 ⟨_, aget_mem _ _ hg, rfl⟩)
      omega
  have hc : ¬ (n ≤ n - 1 ∨ 1099511627776 < n ∨ (aget g.ws n).isSome) := by rw [hno]; simp; omega
  have e : (⟨n - 1, g.most, g.ws⟩ : GS α).put n v = ((v :: (drain g.ws.length n g.ws).1, false), ⟨(drain g.ws.length n g.ws).2.1, g.most, (drain g.ws.length n g.ws).2.2⟩) := by
    unfold GS.put
    rw [if_neg hc, if_pos (show n = n - 1 + 1 by omega)]
  rw [e]
  refine ⟨rfl, fun hn => ?_, fun hn => ?_⟩
  · have hno' : aget g.ws (n + 1) = none := by
      cases hg : aget g.ws (n + 1) with
      | none => rfl
      | some x =>
        have := head_le hy (n + 1) (List.mem_map.2 ⟨_, aget_mem _ _ hg, rfl⟩)
        omega
    rw [drain_none (Nat.le_refl _) hno']
  · have hym' := (sortI_mem _ _).1 (List.mem_of_getElem? hy)
    rw [← hn] at hym'
    obtain ⟨x, hx⟩ := (mem_keys_aget g.ws (n + 1)).1 hym'
    obtain ⟨i1, i2, i3, i4, i5, i6, i7⟩ := drain_ok g.ws.length n g.ws (Nat.le_refl _) h.nd (fun p hp => by have := head_le hy p.1 (List.mem_map.2 ⟨p, hp, rfl⟩); exact ⟨by omega, (h.rng p hp).2⟩) (by omega)
    obtain ⟨f', hf', hd1, hd2, hd3⟩ := drain_some (Nat.le_refl _) hx
    have hlen : 0 < (drain g.ws.length n g.ws).1.length := by rw [hd3]; simp
    exact ⟨by show y ≤ (drain _ _ _).2.1; omega, by show (drain _ _ _).2.2.length < g.ws.length; omega⟩
end Go.Proofs.Ytenokheiindfkaa
