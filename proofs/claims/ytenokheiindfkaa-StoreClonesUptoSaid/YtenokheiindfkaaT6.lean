/- Keys in order, plainly. -/
import Derived.Test.YtenokheiindfkaaT5
import Derived.Test.YtenokheiindfkaaKS
import Derived.Sort.Walk0
set_option linter.unusedVariables false
set_option linter.unusedSimpArgs false
set_option maxRecDepth 10000
namespace Go.Proofs.Ytenokheiindfkaa
open Go.VW
def ltB (a b : ByteArray) : Prop := bl a < bl b
theorem ltB_irrefl (a : ByteArray) : ¬ ltB a a := List.lt_irrefl _
theorem ltB_trans {a b c : ByteArray} (h : ltB a b) (h' : ltB b c) : ltB a c := List.lt_trans h h'
theorem ltB_tri (a b : ByteArray) : ltB a b ∨ a = b ∨ ltB b a := by
  by_cases h : ltB a b
  · exact .inl h
  · by_cases h' : ltB b a
    · exact .inr (.inr h')
    · right; left
      exact bl_inj (List.le_antisymm (List.not_lt.1 h') (List.not_lt.1 h))
open Classical in
noncomputable def kstep (last : Option ByteArray) (best : Option ByteArray) (k : ByteArray) : Option ByteArray := if (∀ l, last = some l → ltB l k) ∧ (∀ b, best = some b → ltB k b) then some k else best
theorem kfold (last : Option ByteArray) : ∀ (L : List ByteArray) (best : Option ByteArray), (L.foldl (kstep last) best = best ∨ ∃ r, L.foldl (kstep last) best = some r ∧ r ∈ L ∧ ∀ l, last = some l → ltB l r) ∧ (∀ b, best = some b → ∃ r, L.foldl (kstep last) best = some r ∧ ¬ ltB b r) ∧
    ∀ n ∈ L, (∀ l, last = some l → ltB l n) → ∃ r, L.foldl (kstep last) best = some r ∧ ¬ ltB n r
  | [], best => ⟨.inl rfl, fun b hb => ⟨b, hb, ltB_irrefl b⟩, fun n hn => by simp at hn⟩
  | a :: L, best => by
    obtain ⟨h1, h2, h3⟩ := kfold last L (kstep last best a)
    rw [List.foldl_cons]
    generalize hr : L.foldl (kstep last) (kstep last best a) = r at *
    by_cases hc : (∀ l, last = some l → ltB l a) ∧ (∀ b, best = some b → ltB a b)
    · have e : kstep last best a = some a := by unfold kstep; rw [if_pos hc]
      rw [e] at h1 h2
      obtain ⟨r0, hr0, hra⟩ := h2 a rfl
      refine ⟨.inr ?_, fun b hb => ⟨r0, hr0, fun hlt => ?_⟩, fun n hn hl => ?_⟩
      · rcases h1 with h1 | ⟨r1, g1, g2, g3⟩
        · exact ⟨a, h1, List.mem_cons_self .., hc.1⟩
        · exact ⟨r1, g1, List.mem_cons_of_mem _ g2, g3⟩
      · exact hra (ltB_trans (hc.2 b hb) hlt)
      · rcases List.mem_cons.1 hn with rfl | hn
        · exact ⟨r0, hr0, hra⟩
        · exact h3 n hn hl
    · have e : kstep last best a = best := by unfold kstep; rw [if_neg hc]
      rw [e] at h1 h2
      refine ⟨?_, h2, fun n hn hl => ?_⟩
      · rcases h1 with h1 | ⟨r1, g1, g2, g3⟩
        · exact .inl h1
        · exact .inr ⟨r1, g1, List.mem_cons_of_mem _ g2, g3⟩
      · rcases List.mem_cons.1 hn with rfl | hn
        · have : ∃ b, best = some b ∧ ¬ ltB n b := by
            apply Classical.byContradiction
            intro hne
            exact hc ⟨hl, fun b hb => Classical.byContradiction fun hnb => hne ⟨b, hb, hnb⟩⟩
          obtain ⟨b, hb, hnb⟩ := this
          obtain ⟨r0, g0, g1⟩ := h2 b hb
          refine ⟨r0, g0, fun hlt => ?_⟩
          rcases ltB_tri b r0 with q | q | q
          · exact g1 q
          · subst q; exact hnb hlt
          · exact hnb (ltB_trans hlt q)
        · exact h3 n hn hl
theorem knext {KL S : List ByteArray} (hs : S.Pairwise ltB) (hm : ∀ s, s ∈ S ↔ s ∈ KL) (i : Nat) {last : Option ByteArray} (hl : last = if i = 0 then none else S[i - 1]?) (hi : i ≤ S.length) : KL.foldl (kstep last) none = S[i]? := by
  obtain ⟨h1, _, h3⟩ := kfold last KL none
  have hp := List.pairwise_iff_getElem.1 hs
  have hgt : ∀ (j : Nat) (hj : j < S.length), i ≤ j → ∀ l, last = some l → ltB l S[j] := fun j hj hij l hll => by
    rw [hl] at hll
    split at hll
    · cases hll
    · obtain ⟨g1, g2⟩ := List.getElem?_eq_some_iff.1 hll
      rw [← g2]
      exact hp (i - 1) j g1 hj (by omega)
  have hle : ∀ (j : Nat) (hj : j < S.length), j < i → ∀ l, last = some l → ¬ ltB l S[j] := fun j hj hji l hll hlt => by
    rw [hl, if_neg (by omega)] at hll
    obtain ⟨g1, g2⟩ := List.getElem?_eq_some_iff.1 hll
    rw [← g2] at hlt
    by_cases hq : j = i - 1
    · subst hq; exact ltB_irrefl _ hlt
    · exact ltB_irrefl _ (ltB_trans hlt (hp j (i - 1) hj g1 (by omega)))
  by_cases hil : i < S.length
  · obtain ⟨r, hr, hnr⟩ := h3 S[i] ((hm _).1 (List.getElem_mem hil)) (hgt i hil (Nat.le_refl _))
    rw [hr, List.getElem?_eq_getElem hil]
    congr 1
    rcases h1 with h1 | ⟨r', g1, g2, g3⟩
    · rw [h1] at hr; cases hr
    · rw [g1] at hr; cases hr
      obtain ⟨j, hj, rfl⟩ := List.getElem_of_mem ((hm _).2 g2)
      rcases Nat.lt_trichotomy j i with q | q | q
      · cases hlast : last with
        | none => rw [hl, if_neg (by omega)] at hlast; rw [List.getElem?_eq_none_iff] at hlast; omega
        | some l => exact absurd (g3 l hlast) (hle j hj q l hlast)
      · subst q; rfl
      · exact absurd (hp i j hil hj q) hnr
  · rw [List.getElem?_eq_none (by omega)]
    rcases h1 with h1 | ⟨r', g1, g2, g3⟩
    · exact h1
    · obtain ⟨j, hj, rfl⟩ := List.getElem_of_mem ((hm _).2 g2)
      cases hlast : last with
      | none => rw [hl, if_neg (by omega)] at hlast; rw [List.getElem?_eq_none_iff] at hlast; omega
      | some l => exact absurd (g3 l hlast) (hle j hj (by omega) l hlast)
/-- The keys of a store, in order. -/
def unbl (l : List UInt8) : ByteArray := ⟨l.toArray⟩
theorem bl_unbl (l : List UInt8) : bl (unbl l) = l := by simp [bl, unbl]
theorem unbl_bl (b : ByteArray) : unbl (bl b) = b := by cases b; simp [bl, unbl]
def keysOf (ks : List ByteArray) : List ByteArray := (sortB (ks.map bl)).map unbl
theorem keysOf_mem (ks : List ByteArray) (s : ByteArray) : s ∈ keysOf ks ↔ s ∈ ks := by
  unfold keysOf sortB
  rw [List.mem_map]
  constructor
  · rintro ⟨x, hx, rfl⟩
    rw [(List.mergeSort_perm _ _).mem_iff, List.mem_map] at hx
    obtain ⟨y, hy, rfl⟩ := hx
    rw [unbl_bl]; exact hy
  · intro hs
    exact ⟨bl s, by rw [(List.mergeSort_perm _ _).mem_iff]; exact List.mem_map.2 ⟨s, hs, rfl⟩, unbl_bl s⟩
theorem keysOf_len (ks : List ByteArray) : (keysOf ks).length = ks.length := by simp [keysOf, sortB]
theorem keysOf_enc (ks : List ByteArray) : (sortB (ks.map bl)).map encStr = (keysOf ks).map Value.string := by
  unfold keysOf
  rw [List.map_map]
  apply List.map_congr_left
  intro x _
  show encStr x = Value.string (unbl x)
  rw [← encStr_bl, bl_unbl]
theorem keysOf_lt {ks : List ByteArray} (hn : ks.Nodup) : (keysOf ks).Pairwise ltB := by
  unfold keysOf
  rw [List.pairwise_map]
  have hs : (sortB (ks.map bl)).Pairwise (fun a b => decide (a ≤ b) = true) := List.pairwise_mergeSort (fun a b c h1 h2 => by
    simp only [decide_eq_true_eq] at *
    exact List.le_trans h1 h2) (fun a b => by
    simp only [Bool.or_eq_true, decide_eq_true_eq]
    exact List.le_total a b) _
  have hn' : (ks.map bl).Nodup := by
    rw [List.Nodup, List.pairwise_map]
    exact List.Pairwise.imp (fun h e => h (bl_inj e)) hn
  have hd : (sortB (ks.map bl)).Pairwise (· ≠ ·) := (List.mergeSort_perm _ _).nodup_iff.2 hn'
  refine (hs.and hd).imp fun ⟨h1, h2⟩ => ?_
  simp only [decide_eq_true_eq] at h1
  unfold ltB
  rw [bl_unbl, bl_unbl]
  exact Classical.byContradiction fun hnl => h2 (List.le_antisymm h1 (List.not_lt.1 hnl))
end Go.Proofs.Ytenokheiindfkaa
