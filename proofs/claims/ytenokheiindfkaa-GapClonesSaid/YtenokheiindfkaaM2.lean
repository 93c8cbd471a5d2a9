/- What a put does, plainly. -/
import Derived.Test.YtenokheiindfkaaM1
set_option linter.unusedVariables false
set_option linter.unusedSimpArgs false
set_option maxRecDepth 10000
namespace Go.Proofs.Ytenokheiindfkaa
open Go.VW
variable {α : Type}
theorem drain_out : ∀ (f : Nat) (a : Int) (ws : List (Int × α)) (k : Nat) (o : α), (drain f a ws).1[k]? = some o → (a + 1 + k, o) ∈ ws
  | 0, a, ws, k, o, h => by simp [drain] at h
  | f + 1, a, ws, k, o, h => by
    cases hg : aget ws (a + 1) with
    | none => simp [drain, hg] at h
    | some v =>
      simp only [drain, hg] at h
      cases k with
      | zero =>
        simp at h
        subst h
        simpa using aget_mem _ _ hg
      | succ k =>
        have := adel_mem _ _ (drain_out f (a + 1) (adel ws (a + 1)) k o (by simpa using h))
        have e : a + 1 + ((k + 1 : Nat) : Int) = a + 1 + 1 + k := by omega
        rw [e]; exact this
structure PutOk (g : GS α) (n : Int) (v : α) (r : (List α × Bool) × GS α) : Prop where
  at_ : r.2.at_ = g.at_ + r.1.1.length
  most : r.2.most = g.most
  out : ∀ (k : Nat) o, r.1.1[k]? = some o → (g.at_ + 1 + k, o) ∈ (n, v) :: g.ws
  ws : ∀ p ∈ r.2.ws, p ∈ (n, v) :: g.ws
  over : r.1.2 = true → r.1.1 = [] ∧ r.2.ws = []
  ne : n ≤ 1099511627776 → n ≠ r.2.at_ + 1
  stays : r.1.1 = [] → r.2.at_ < n → r.1.2 = false → n ≤ 1099511627776 → n ∈ r.2.ws.map (·.1)
theorem put_ok {g : GS α} (h : g.WF) (n : Int) (v : α) : PutOk g n v (g.put n v) := by
  unfold GS.put
  split
  · rename_i hc
    refine ⟨by simp, rfl, by simp, fun p hp => List.mem_cons_of_mem _ hp, by simp, ?_, ?_⟩
    · intro hmx
      show n ≠ g.at_ + 1
      rcases hc with hc | hc | hc
      · omega
      · omega
      · intro e
        obtain ⟨x, hx⟩ := Option.isSome_iff_exists.1 hc
        have := h.rng _ (aget_mem _ _ hx)
        simp only at this; omega
    · intro _ h1 _ h2
      change g.at_ < n at h1
      rcases hc with hc | hc | hc
      · omega
      · omega
      · exact (mem_keys_aget g.ws n).2 (Option.isSome_iff_exists.1 hc)
  · rename_i hc
    simp only [not_or, Int.not_le, Int.not_lt] at hc
    split
    · rename_i hn
      obtain ⟨i1, i2, i3, i4, i5, i6, i7⟩ := drain_ok g.ws.length n g.ws (Nat.le_refl _) h.nd (fun p hp => by have := h.rng p hp; omega) hc.2.1
      refine ⟨by show (drain _ _ _).2.1 = g.at_ + ((v :: (drain g.ws.length n g.ws).1).length : Nat); rw [i7]; simp; omega, rfl, ?_, fun p hp => List.mem_cons_of_mem _ (i4 p hp).2.2, by simp, by intro _; show n ≠ (drain _ _ _).2.1 + 1; omega, by simp⟩
      intro k o hk
      cases k with
      | zero =>
        simp at hk; subst hk
        rw [← hn] at *
        simp
      | succ k =>
        have := drain_out g.ws.length n g.ws k o (by simpa using hk)
        have e : g.at_ + 1 + ((k + 1 : Nat) : Int) = n + 1 + k := by omega
        rw [e]; exact List.mem_cons_of_mem _ this
    · rename_i hn
      split
      · exact ⟨by simp, rfl, by simp, by simp, by simp, fun _ => hn, by simp⟩
      · refine ⟨by simp, rfl, by simp, fun p hp => ?_, by simp, fun _ => hn, by simp⟩
        rcases List.mem_append.1 hp with hp | hp
        · exact List.mem_cons_of_mem _ hp
        · simp at hp; subst hp; exact List.mem_cons_self ..
theorem sortI_mem (l : List Int) (x : Int) : x ∈ sortI l ↔ x ∈ l := (List.mergeSort_perm _ _).mem_iff
theorem sortI_len (l : List Int) : (sortI l).length = l.length := by unfold sortI; simp
end Go.Proofs.Ytenokheiindfkaa
