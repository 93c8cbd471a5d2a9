/- slices.Sorted(maps.Keys(m)) at string keys: the kit's contracts, told of an entry list. -/
import Derived.Test.YtldmkhakjnglmaaKM
import Derived.Test.YtldmkhakjnglmaaCA
import Derived.Test.YtldmkhakjnglmaaQ0
import Derived.Sort.KeysCollected
import Derived.StringKeys
set_option linter.unusedVariables false
namespace Go.Proofs.Ytldmkhakjnglmaa
open Go.RowKit Go.Maps Go.Sort Go.Shelf Go.VW
def bl (s : ByteArray) : List UInt8 := s.data.toList
theorem encStr_bl (s : ByteArray) : encStr (bl s) = .string s := by
  cases s; rfl
theorem bl_inj {a b : ByteArray} (h : bl a = bl b) : a = b := by
  cases a; cases b
  simp only [bl] at h
  congr 1
  exact Array.toList_inj.1 h
theorem sortsM (m : Nat) : AnyZ.SortsIn Try.prog Ytldmkhakjnglmaa.sM_ren Fence.wide m :=
  ⟨fun blk off cap ss W hH hblk hsz => callsIn_wide.2 (AnyM.slices_Sort_string Ytldmkhakjnglmaa.tM blk off cap ss W hH hblk hsz),
   fun p cap W => callsIn_wide.2 (AnyM.slices_Sort_string_none Ytldmkhakjnglmaa.tM p cap W)⟩
theorem un9s : Try.prog.underlying 9 = some .string := by kernel_rfl
def sortB (l : List (List UInt8)) : List (List UInt8) := l.mergeSort leB
theorem keysD_strs {H : Type} (ks : List (List UInt8)) : (strKeys (keysD (H := H) (ks.map Lit.string))).Perm ks := by
  unfold keysD strKeys
  refine ((Go.WideShapes.sorted_perm _).map _).trans (List.Perm.of_eq ?_)
  simp [List.map_map, Function.comp_def, Go.strOf]

theorem keysEnt {mb : Option Nat} {w : World} {K : Value → World → Prop} (hK : K (.func (.func 43) #[] #[.pointer (some ⟨w.heap.size, 0, none⟩)]) (w.alloc (.cells #[.map mb] 54))) : CallsN Try.prog 29 [.map mb] w K :=
  CallsN.of ((callsIn_wide.1 (AnyZ.keys_in Ytldmkhakjnglmaa.kM Fence.wide 5 trivial rfl mb w)).mono fun e w' h => by
    obtain ⟨rfl, rfl⟩ := h
    exact ⟨_, rfl, hK⟩)
theorem sortedEnt {w : World} {b : Nat} {es : List (ByteArray × Value)} {K : Value → World → Prop} (h : MapAt Value.string w.heap[b]? es) (hb : ∀ p ∈ es, p.1.size ≤ maxLen) (hn : es.length ≤ 1000000000)
    (hK : ∀ v w', Own 1 9 w' v es.length ((sortB (es.map fun p => bl p.1)).map encStr) → Fr [] w w' → (∀ g, v.ownBlock = some g → w.heap.size ≤ g) → K v w') :
    CallsN Try.prog 28 [.func (.func 43) #[] #[.pointer (some ⟨w.heap.size, 0, none⟩)]] (w.alloc (.cells #[.map (some b)] 54)) K := by
  have hown := own_of_mapAt (H := Unit) (P := Try.prog) (kt := 9) (kl := fun s => Lit.string (bl s)) h (fun x y e => by simpa using e) (fun p hp => Go.WideMaps.keyOf_string_mk un9s (hb p hp)) (by unfold maxLen; omega)
  have hsz := keysD_size (H := Unit) (es.map fun p => Lit.string (bl p.1))
  have hpk := keysD_strs (H := Unit) (es.map fun p => bl p.1)
  rw [List.map_map] at hpk
  generalize hD : keysD (H := Unit) (es.map fun p => Lit.string (bl p.1)) = D0 at hown hsz
  have hpk' : (strKeys D0).Perm (es.map fun p => bl p.1) := by rw [← hD]; exact hpk
  have hbl := hown.lt
  have hmax : Maps.size D0 ≤ maxLen := by rw [hsz]; unfold maxLen; simp; omega
  have hseq : SeqGives Fence.wide 2 Try.prog 43 #[.pointer (some ⟨w.heap.size, 0, none⟩)] encStr (fun ss => ss.Perm (strKeys D0)) (Maps.size D0) (w.alloc (.cells #[.map (some b)] 54)) :=
    AnyZ.keys_gives (ρ := Ytldmkhakjnglmaa.kM_ren) { Ytldmkhakjnglmaa.kM with } Fence.wide _ trivial rfl (by omega) w.heap.size b es.length D0 _ (by simp) (by simp) (by
      obtain ⟨es', clock, hb', Ft, hs, hD'⟩ := hown
      exact ⟨es', clock, (Below.heap_alloc _ _ b hbl).trans hb', Ft, hs, hD'⟩)
  have cS := AnyZ.sorted_in Ytldmkhakjnglmaa.sM Fence.wide 5 trivial trivial trivial trivial rfl (by omega) (sortsM _) (enters_of Try.func42 (by kernel_rfl) rfl) 43 #[.pointer (some ⟨w.heap.size, 0, none⟩)] trivial (enters_of Try.func43 (by kernel_rfl) rfl) _ _ hmax (by rw [hsz]; simp; omega) _ hseq
  change CallsIn _ _ Try.prog 28 _ _ _ at cS
  refine CallsN.of ((callsIn_wide.1 cS).mono fun e w' h => ?_)
  obtain ⟨v, ss, rfl, hS, hrow, hnil, hbelow⟩ := h
  have hp := hS.trans hpk'
  have hm : ss.mergeSort (fun x y => decide (x ≤ y)) = sortB (es.map fun p => bl p.1) := mergeSort_of_perm hp
  rw [hm] at hrow
  have hl : ss.length = es.length := by rw [hp.length_eq]; simp
  rw [hl] at hrow
  obtain ⟨ho, hfr⟩ := Own.of_row hrow
  refine ⟨v, rfl, hK v w' ho (((Fr.refl [] w).alloc _).trans' (Fr.of_below hbelow)) fun g hg => ?_⟩
  have := hfr g hg
  rw [size_alloc] at this
  omega
end Go.Proofs.Ytldmkhakjnglmaa
