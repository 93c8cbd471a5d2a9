/- Keys in order, plainly (out of store/T6). -/
import Derived.Test.YtldmkhakjnglmaaAC
import Derived.Sort.Walk0
set_option linter.unusedVariables false
set_option linter.unusedSimpArgs false
set_option maxRecDepth 10000
namespace Go.Proofs.Ytldmkhakjnglmaa
open Go.VW
def ltB (a b : ByteArray) : Prop := bl a < bl b
theorem ltB_irrefl (a : ByteArray) : ¬ ltB a a := List.lt_irrefl _
theorem ltB_trans {a b c : ByteArray} (h : ltB a b) (h' : ltB b c) : ltB a c := List.lt_trans h h'
theorem ltB_tri (a b : ByteArray) : ltB a b ∨ a = b ∨ ltB b a := by
  by_cases h : ltB a b
  · exact .inl h
  · by_cases h' : ltB b a
    · exact .inr (.inr h')
    · right; left
      exact bl_inj (List.le_antisymm (List.not_lt.1 h') (List.not_lt.1 h))
def unbl (l : List UInt8) : ByteArray := ⟨l.toArray⟩
theorem bl_unbl (l : List UInt8) : bl (unbl l) = l := by simp [bl, unbl]
theorem unbl_bl (b : ByteArray) : unbl (bl b) = b := by cases b; simp [bl, unbl]
def keysOf (ks : List ByteArray) : List ByteArray := (sortB (ks.map bl)).map unbl
theorem keysOf_mem (ks : List ByteArray) (s : ByteArray) : s ∈ keysOf ks ↔ s ∈ ks := by
  unfold keysOf sortB
  rw [List.mem_map]
  constructor
  · rintro ⟨x, hx, rfl⟩
    rw [(List.mergeSort_perm _ _).mem_iff, List.mem_map] at hx
    obtain ⟨y, hy, rfl⟩ := hx
    rw [unbl_bl]; exact hy
  · intro hs
    exact ⟨bl s, by rw [(List.mergeSort_perm _ _).mem_iff]; exact List.mem_map.2 ⟨s, hs, rfl⟩, unbl_bl s⟩
theorem keysOf_len (ks : List ByteArray) : (keysOf ks).length = ks.length := by simp [keysOf, sortB]
theorem keysOf_enc (ks : List ByteArray) : (sortB (ks.map bl)).map encStr = (keysOf ks).map Value.string := by
  unfold keysOf
  rw [List.map_map]
  apply List.map_congr_left
  intro x _
  show encStr x = Value.string (unbl x)
  rw [← encStr_bl, bl_unbl]
theorem keysOf_lt {ks : List ByteArray} (hn : ks.Nodup) : (keysOf ks).Pairwise ltB := by
  unfold keysOf
  rw [List.pairwise_map]
  have hs : (sortB (ks.map bl)).Pairwise (fun a b => decide (a ≤ b) = true) := List.pairwise_mergeSort (fun a b c h1 h2 => by
    simp only [decide_eq_true_eq] at *
    exact List.le_trans h1 h2) (fun a b => by
    simp only [Bool.or_eq_true, decide_eq_true_eq]
    exact List.le_total a b) _
  have hn' : (ks.map bl).Nodup := by
    rw [List.Nodup, List.pairwise_map]
    exact List.Pairwise.imp (fun h e => h (bl_inj e)) hn
  have hd : (sortB (ks.map bl)).Pairwise (· ≠ ·) := (List.mergeSort_perm _ _).nodup_iff.2 hn'
  refine (hs.and hd).imp fun ⟨h1, h2⟩ => ?_
  simp only [decide_eq_true_eq] at h1
  unfold ltB
  rw [bl_unbl, bl_unbl]
  exact Classical.byContradiction fun hnl => h2 (List.le_antisymm h1 (List.not_lt.1 hnl))
end Go.Proofs.Ytldmkhakjnglmaa
