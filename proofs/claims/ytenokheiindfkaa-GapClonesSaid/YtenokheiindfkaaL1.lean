/- slices.Sorted(maps.Keys(m)) at the gap's maps: the kit's contracts, told of an entry list. -/
import Derived.Test.YtenokheiindfkaaL0
import Derived.Test.YtenokheiindfkaaCA
import Derived.Test.YtenokheiindfkaaQ0
set_option linter.unusedVariables false
namespace Go.Proofs.Ytenokheiindfkaa
open Go.RowKit Go.Maps Go.Sort Go.Shelf Go.VW
theorem sortsI (m : Nat) : AnyZI.SortsIn Try.prog Ytenokheiindfkaa.sI_ren Fence.wide m :=
  ⟨fun blk off cap ss W hH hblk hsz => callsIn_wide.2 (AnyM.slices_Sort_int Ytenokheiindfkaa.tI blk off cap ss W hH hblk hsz),
   fun p cap W => callsIn_wide.2 (AnyM.slices_Sort_int_none Ytenokheiindfkaa.tI p cap W)⟩
theorem un2 : Try.prog.underlying 2 = some (.int .i64) := by kernel_rfl
def sortI (l : List Int) : List Int := l.mergeSort fun x y => decide (x ≤ y)
theorem keysR {mb : Option Nat} {w : World} {K : Value → World → Prop} (hK : K (.func (.func 93) #[] #[.pointer (some ⟨w.heap.size, 0, none⟩)]) (w.alloc (.cells #[.map mb] 123))) : CallsN Try.prog 73 [.map mb] w K :=
  CallsN.of ((callsIn_wide.1 (AnyZI.keys_in Ytenokheiindfkaa.kR Fence.wide 5 trivial rfl mb w)).mono fun e w' h => by
    obtain ⟨rfl, rfl⟩ := h
    exact ⟨_, rfl, hK⟩)
theorem sortedR {w : World} {b : Nat} {es : List (Int × Value)} {K : Value → World → Prop} (h : MapAt (Value.int .i64) w.heap[b]? es) (hb : ∀ p ∈ es, 0 ≤ p.1 ∧ p.1 ≤ 1099511627776) (hn : es.length ≤ 1000000)
    (hK : ∀ v w', Own 1 2 w' v es.length ((sortI (es.map (·.1))).map (Value.int .i64)) → Fr [] w w' → (∀ g, v.ownBlock = some g → w.heap.size ≤ g) → K v w') :
    CallsN Try.prog 67 [.func (.func 93) #[] #[.pointer (some ⟨w.heap.size, 0, none⟩)]] (w.alloc (.cells #[.map (some b)] 123)) K := by
  have hown := own_of_mapAt (H := Unit) (P := Try.prog) (kt := 2) (kl := Lit.int .i64) h (fun x y e => by simpa using e) (fun p hp => keyOf_i64_mk un2 (by have := hb p hp; omega) (by have := hb p hp; omega)) (by unfold maxLen; omega)
  have hsz := keysD_size (H := Unit) (es.map fun p => Lit.int .i64 p.1)
  have hpk := keysD_ints (H := Unit) (es.map (·.1))
  rw [List.map_map] at hpk
  generalize hD : keysD (H := Unit) (es.map fun p => Lit.int .i64 p.1) = D0 at hown hsz
  have hpk' : (intKeys D0).Perm (es.map (·.1)) := by rw [← hD]; exact hpk
  have hbl := hown.lt
  have hmax : Maps.size D0 ≤ maxLen := by rw [hsz]; unfold maxLen; simp; omega
  have hseq : SeqGives Fence.wide 2 Try.prog 93 #[.pointer (some ⟨w.heap.size, 0, none⟩)] encZ (fun ss => ss.Perm (intKeys D0)) (Maps.size D0) (w.alloc (.cells #[.map (some b)] 123)) :=
    AnyZI.keys_gives (ρ := Ytenokheiindfkaa.kR_ren) { Ytenokheiindfkaa.kR with } Fence.wide _ trivial rfl (by omega) w.heap.size b es.length D0 _ (by simp) (by simp) (by
      obtain ⟨es', clock, hb', Ft, hs, hD'⟩ := hown
      exact ⟨es', clock, (Below.heap_alloc _ _ b hbl).trans hb', Ft, hs, hD'⟩)
  have cS := AnyZI.sorted_in Ytenokheiindfkaa.sI Fence.wide 5 trivial trivial trivial trivial rfl (by omega) (sortsI _) (enters_of Try.func89 (by kernel_rfl) rfl) 93 #[.pointer (some ⟨w.heap.size, 0, none⟩)] trivial (enters_of Try.func93 (by kernel_rfl) rfl) _ _ hmax (by rw [hsz]; simp; omega) _ hseq
  change CallsIn _ _ Try.prog 67 _ _ _ at cS
  refine CallsN.of ((callsIn_wide.1 cS).mono fun e w' h => ?_)
  obtain ⟨v, ss, rfl, hS, hrow, hnil, hbelow⟩ := h
  have hp := hS.trans hpk'
  have hm : ss.mergeSort (fun x y => decide (x ≤ y)) = sortI (es.map (·.1)) := mergeSort_of_perm_i hp
  rw [hm] at hrow
  have hl : ss.length = es.length := by rw [hp.length_eq]; simp
  rw [hl] at hrow
  obtain ⟨ho, hfr⟩ := Own.of_row hrow
  refine ⟨v, rfl, hK v w' ho (((Fr.refl [] w).alloc _).trans' (Fr.of_below hbelow)) fun g hg => ?_⟩
  have := hfr g hg
  rw [size_alloc] at this
  omega
theorem keysI {mb : Option Nat} {w : World} {K : Value → World → Prop} (hK : K (.func (.func 90) #[] #[.pointer (some ⟨w.heap.size, 0, none⟩)]) (w.alloc (.cells #[.map mb] 128))) : CallsN Try.prog 68 [.map mb] w K :=
  CallsN.of ((callsIn_wide.1 (AnyZI.keys_in Ytenokheiindfkaa.kI Fence.wide 5 trivial rfl mb w)).mono fun e w' h => by
    obtain ⟨rfl, rfl⟩ := h
    exact ⟨_, rfl, hK⟩)
theorem sortedI {w : World} {b : Nat} {es : List (Int × Value)} {K : Value → World → Prop} (h : MapAt (Value.int .i64) w.heap[b]? es) (hb : ∀ p ∈ es, 0 ≤ p.1 ∧ p.1 ≤ 1099511627776) (hn : es.length ≤ 1000000)
    (hK : ∀ v w', Own 1 2 w' v es.length ((sortI (es.map (·.1))).map (Value.int .i64)) → Fr [] w w' → (∀ g, v.ownBlock = some g → w.heap.size ≤ g) → K v w') :
    CallsN Try.prog 67 [.func (.func 90) #[] #[.pointer (some ⟨w.heap.size, 0, none⟩)]] (w.alloc (.cells #[.map (some b)] 128)) K := by
  have hown := own_of_mapAt (H := Unit) (P := Try.prog) (kt := 2) (kl := Lit.int .i64) h (fun x y e => by simpa using e) (fun p hp => keyOf_i64_mk un2 (by have := hb p hp; omega) (by have := hb p hp; omega)) (by unfold maxLen; omega)
  have hsz := keysD_size (H := Unit) (es.map fun p => Lit.int .i64 p.1)
  have hpk := keysD_ints (H := Unit) (es.map (·.1))
  rw [List.map_map] at hpk
  generalize hD : keysD (H := Unit) (es.map fun p => Lit.int .i64 p.1) = D0 at hown hsz
  have hpk' : (intKeys D0).Perm (es.map (·.1)) := by rw [← hD]; exact hpk
  have hbl := hown.lt
  have hmax : Maps.size D0 ≤ maxLen := by rw [hsz]; unfold maxLen; simp; omega
  have hseq : SeqGives Fence.wide 2 Try.prog 90 #[.pointer (some ⟨w.heap.size, 0, none⟩)] encZ (fun ss => ss.Perm (intKeys D0)) (Maps.size D0) (w.alloc (.cells #[.map (some b)] 128)) :=
    AnyZI.keys_gives (ρ := Ytenokheiindfkaa.kI_ren) { Ytenokheiindfkaa.kI with } Fence.wide _ trivial rfl (by omega) w.heap.size b es.length D0 _ (by simp) (by simp) (by
      obtain ⟨es', clock, hb', Ft, hs, hD'⟩ := hown
      exact ⟨es', clock, (Below.heap_alloc _ _ b hbl).trans hb', Ft, hs, hD'⟩)
  have cS := AnyZI.sorted_in Ytenokheiindfkaa.sI Fence.wide 5 trivial trivial trivial trivial rfl (by omega) (sortsI _) (enters_of Try.func89 (by kernel_rfl) rfl) 90 #[.pointer (some ⟨w.heap.size, 0, none⟩)] trivial (enters_of Try.func90 (by kernel_rfl) rfl) _ _ hmax (by rw [hsz]; simp; omega) _ hseq
  change CallsIn _ _ Try.prog 67 _ _ _ at cS
  refine CallsN.of ((callsIn_wide.1 cS).mono fun e w' h => ?_)
  obtain ⟨v, ss, rfl, hS, hrow, hnil, hbelow⟩ := h
  have hp := hS.trans hpk'
  have hm : ss.mergeSort (fun x y => decide (x ≤ y)) = sortI (es.map (·.1)) := mergeSort_of_perm_i hp
  rw [hm] at hrow
  have hl : ss.length = es.length := by rw [hp.length_eq]; simp
  rw [hl] at hrow
  obtain ⟨ho, hfr⟩ := Own.of_row hrow
  refine ⟨v, rfl, hK v w' ho (((Fr.refl [] w).alloc _).trans' (Fr.of_below hbelow)) fun g hg => ?_⟩
  have := hfr g hg
  rw [size_alloc] at this
  omega
theorem keysL {mb : Option Nat} {w : World} {K : Value → World → Prop} (hK : K (.func (.func 91) #[] #[.pointer (some ⟨w.heap.size, 0, none⟩)]) (w.alloc (.cells #[.map mb] 137))) : CallsN Try.prog 71 [.map mb] w K :=
  CallsN.of ((callsIn_wide.1 (AnyZI.keys_in Ytenokheiindfkaa.kL Fence.wide 5 trivial rfl mb w)).mono fun e w' h => by
    obtain ⟨rfl, rfl⟩ := h
    exact ⟨_, rfl, hK⟩)
theorem sortedL {w : World} {b : Nat} {es : List (Int × Value)} {K : Value → World → Prop} (h : MapAt (Value.int .i64) w.heap[b]? es) (hb : ∀ p ∈ es, 0 ≤ p.1 ∧ p.1 ≤ 1099511627776) (hn : es.length ≤ 1000000)
    (hK : ∀ v w', Own 1 2 w' v es.length ((sortI (es.map (·.1))).map (Value.int .i64)) → Fr [] w w' → (∀ g, v.ownBlock = some g → w.heap.size ≤ g) → K v w') :
    CallsN Try.prog 67 [.func (.func 91) #[] #[.pointer (some ⟨w.heap.size, 0, none⟩)]] (w.alloc (.cells #[.map (some b)] 137)) K := by
  have hown := own_of_mapAt (H := Unit) (P := Try.prog) (kt := 2) (kl := Lit.int .i64) h (fun x y e => by simpa using e) (fun p hp => keyOf_i64_mk un2 (by have := hb p hp; omega) (by have := hb p hp; omega)) (by unfold maxLen; omega)
  have hsz := keysD_size (H := Unit) (es.map fun p => Lit.int .i64 p.1)
  have hpk := keysD_ints (H := Unit) (es.map (·.1))
  rw [List.map_map] at hpk
  generalize hD : keysD (H := Unit) (es.map fun p => Lit.int .i64 p.1) = D0 at hown hsz
  have hpk' : (intKeys D0).Perm (es.map (·.1)) := by rw [← hD]; exact hpk
  have hbl := hown.lt
  have hmax : Maps.size D0 ≤ maxLen := by rw [hsz]; unfold maxLen; simp; omega
  have hseq : SeqGives Fence.wide 2 Try.prog 91 #[.pointer (some ⟨w.heap.size, 0, none⟩)] encZ (fun ss => ss.Perm (intKeys D0)) (Maps.size D0) (w.alloc (.cells #[.map (some b)] 137)) :=
    AnyZI.keys_gives (ρ := Ytenokheiindfkaa.kL_ren) { Ytenokheiindfkaa.kL with } Fence.wide _ trivial rfl (by omega) w.heap.size b es.length D0 _ (by simp) (by simp) (by
      obtain ⟨es', clock, hb', Ft, hs, hD'⟩ := hown
      exact ⟨es', clock, (Below.heap_alloc _ _ b hbl).trans hb', Ft, hs, hD'⟩)
  have cS := AnyZI.sorted_in Ytenokheiindfkaa.sI Fence.wide 5 trivial trivial trivial trivial rfl (by omega) (sortsI _) (enters_of Try.func89 (by kernel_rfl) rfl) 91 #[.pointer (some ⟨w.heap.size, 0, none⟩)] trivial (enters_of Try.func91 (by kernel_rfl) rfl) _ _ hmax (by rw [hsz]; simp; omega) _ hseq
  change CallsIn _ _ Try.prog 67 _ _ _ at cS
  refine CallsN.of ((callsIn_wide.1 cS).mono fun e w' h => ?_)
  obtain ⟨v, ss, rfl, hS, hrow, hnil, hbelow⟩ := h
  have hp := hS.trans hpk'
  have hm : ss.mergeSort (fun x y => decide (x ≤ y)) = sortI (es.map (·.1)) := mergeSort_of_perm_i hp
  rw [hm] at hrow
  have hl : ss.length = es.length := by rw [hp.length_eq]; simp
  rw [hl] at hrow
  obtain ⟨ho, hfr⟩ := Own.of_row hrow
  refine ⟨v, rfl, hK v w' ho (((Fr.refl [] w).alloc _).trans' (Fr.of_below hbelow)) fun g hg => ?_⟩
  have := hfr g hg
  rw [size_alloc] at this
  omega
end Go.Proofs.Ytenokheiindfkaa
