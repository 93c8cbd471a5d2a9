/- DERIVED: THE SHELF's CONTRACTS AT THIS DUMP, IN PLAIN WORDS (tools/lay-plain.mjs out of 'YtomlgkecckffeaaGreatKM.lean', which tools/lay-shelf.mjs wrote): THE SAME DECLARATIONS UNDER THE SAME NAMES: 'import', 'namespace', 'open', 'def', 'theorem' AND NOTHING ELSE: no command of the shelf's: FOR A HAND-IN. Each laying: the table of numbers ('.._ren') and one theorem, a field a fact of the dump's own or the kernel's comparison; each contract: ONE APPLICATION. The generic engine, part 10: a map's keys, collected and sorted, told of an entry list. slices.Sorted(maps.Keys(m)) at string keys: the kit's contracts, told of an entry list. Table: Find, All. Keys in order, plainly (out of store/T6). Table: All. -/
import Derived.Shelf.SlIter.Nil
import Derived.Shelf.SortM.Plain
import Derived.Shelf.SortM.SortNone
import Derived.Ground.GgzProg
import Derived.Ground.SlgmProg
import Derived.Test.YtomlgkecckffeaaGreatProg
import Derived.Test.YtomlgkecckffeaaGreatCB
import Derived.Maps.Range
import Derived.Lib.SlKeysI
import Derived.Test.YtomlgkecckffeaaGreatCI
import Derived.Sort.KeysCollected
import Derived.StringKeys
import Derived.Test.YtomlgkecckffeaaGreatAB
import Derived.Sort.Walk0
namespace Go.Proofs
open Go.Shelf
def YtomlgkecckffeaaGreat.kM_ren : Go.Shelf.Ren := ⟨fun | 7 => 139 | 10 => 177 | n => n, fun | 23 => 192 | 26 => 9 | 3 => 41 | 28 => 190 | 0 => 0 | 27 => 189 | 33 => 169 | 4 => 4 | n => n, fun | n => n⟩
theorem YtomlgkecckffeaaGreat.kM : Go.Proofs.SlLaysZ.n7 Tryz.prog YtomlgkecckffeaaGreat.kM_ren := {
  mixed := by kernel_rfl
  f7 := ⟨Tryz.f139.name, by decide, Tryz.func139.trans (congrArg some (by kernel_rfl))⟩
  f10 := ⟨Tryz.f177.name, by decide, Tryz.func177.trans (congrArg some (by kernel_rfl))⟩
  t0 := Tryz.underlying0
  a0 := Tryz.isAgg0
  z0 := Tryz.sizeOf0
  v0 := Tryz.zeroValue0
  t4 := Tryz.underlying4
  a4 := Tryz.isAgg4
  z4 := Tryz.sizeOf4
  v4 := Tryz.zeroValue4
  t23 := Tryz.underlying192
  a23 := Tryz.isAgg192
  z23 := Tryz.sizeOf192
  v23 := Tryz.zeroValue192
  t26 := Tryz.underlying9
  a26 := Tryz.isAgg9
  z26 := Tryz.sizeOf9
  v26 := Tryz.zeroValue9
  t27 := Tryz.underlying189
  a27 := Tryz.isAgg189
  z27 := Tryz.sizeOf189
  v27 := Tryz.zeroValue189
  t28 := Tryz.underlying190
  a28 := Tryz.isAgg190
  z28 := Tryz.sizeOf190
  v28 := Tryz.zeroValue190
  t33 := Tryz.underlying169
  a33 := Tryz.isAgg169
  z33 := Tryz.sizeOf169
  v33 := Tryz.zeroValue169 }
def YtomlgkecckffeaaGreat.sM_ren : Go.Shelf.Ren := ⟨fun | 6 => 138 | 8 => 175 | 9 => 176 | 11 => 203 | 13 => 202 | 12 => 204 | 23 => 222 | 24 => 223 | 14 => 224 | 15 => 225 | 16 => 226 | 17 => 227 | 18 => 228 | 19 => 229 | 20 => 230 | 21 => 231 | 22 => 232 | 25 => 241 | 26 => 237 | 27 => 238 | 28 => 242 | 29 => 243 | 30 => 244 | 31 => 247 | n => n, fun | 26 => 9 | 28 => 190 | 24 => 22 | 0 => 0 | 3 => 3 | 37 => 246 | 48 => 262 | 50 => 264 | 4 => 4 | 40 => 255 | 39 => 254 | 45 => 206 | 5 => 5 | 9 => 9 | 51 => 273 | 55 => 277 | 57 => 281 | 58 => 282 | 33 => 169 | n => n, fun | n => n⟩
theorem YtomlgkecckffeaaGreat.sM : Go.Proofs.SlLaysZ.n6 Tryz.prog YtomlgkecckffeaaGreat.sM_ren := {
  mixed := by kernel_rfl
  f6 := ⟨Tryz.f138.name, by decide, Tryz.func138.trans (congrArg some (by kernel_rfl))⟩
  f8 := ⟨Tryz.f175.name, by decide, Tryz.func175.trans (congrArg some (by kernel_rfl))⟩
  f11 := ⟨Tryz.f203.name, by decide, Tryz.func203.trans (congrArg some (by kernel_rfl))⟩
  t0 := Tryz.underlying0
  a0 := Tryz.isAgg0
  z0 := Tryz.sizeOf0
  v0 := Tryz.zeroValue0
  t24 := Tryz.underlying22
  a24 := Tryz.isAgg22
  z24 := Tryz.sizeOf22
  v24 := Tryz.zeroValue22
  t26 := Tryz.underlying9
  a26 := Tryz.isAgg9
  z26 := Tryz.sizeOf9
  v26 := Tryz.zeroValue9
  t28 := Tryz.underlying190
  a28 := Tryz.isAgg190
  z28 := Tryz.sizeOf190
  v28 := Tryz.zeroValue190
  i26 := by kernel_rfl }
def YtomlgkecckffeaaGreat.tM_ren : Go.Shelf.Ren := ⟨fun | 6 => 176 | 8 => 202 | 9 => 204 | 19 => 222 | 20 => 223 | 21 => 224 | 22 => 225 | 23 => 226 | 24 => 227 | 25 => 228 | 26 => 229 | 27 => 230 | 28 => 231 | 29 => 232 | 36 => 241 | 31 => 237 | 32 => 238 | 37 => 242 | 38 => 243 | 39 => 244 | 41 => 247 | n => n, fun | 27 => 22 | 29 => 9 | 3 => 3 | 32 => 246 | 26 => 22 | 0 => 0 | 44 => 262 | 46 => 264 | 4 => 4 | 36 => 255 | 35 => 254 | 41 => 206 | 5 => 5 | 9 => 9 | 53 => 273 | 57 => 277 | 63 => 281 | 64 => 282 | n => n, fun | n => n⟩
theorem YtomlgkecckffeaaGreat.tM : Go.Proofs.SlLaysM.n6 Tryz.prog YtomlgkecckffeaaGreat.tM_ren := {
  mixed := by kernel_rfl
  f6 := ⟨Tryz.f176.name, by decide, Tryz.func176.trans (congrArg some (by kernel_rfl))⟩
  f8 := Tryz.func202.trans (congrArg some (by kernel_rfl))
  f9 := ⟨Tryz.f204.name, by decide, Tryz.func204.trans (congrArg some (by kernel_rfl))⟩
  f19 := Tryz.func222.trans (congrArg some (by kernel_rfl))
  f20 := Tryz.func223.trans (congrArg some (by kernel_rfl))
  f21 := ⟨Tryz.f224.name, by decide, Tryz.func224.trans (congrArg some (by kernel_rfl))⟩
  f22 := ⟨Tryz.f225.name, by decide, Tryz.func225.trans (congrArg some (by kernel_rfl))⟩
  f23 := ⟨Tryz.f226.name, by decide, Tryz.func226.trans (congrArg some (by kernel_rfl))⟩
  f24 := ⟨Tryz.f227.name, by decide, Tryz.func227.trans (congrArg some (by kernel_rfl))⟩
  f25 := ⟨Tryz.f228.name, by decide, Tryz.func228.trans (congrArg some (by kernel_rfl))⟩
  f26 := ⟨Tryz.f229.name, by decide, Tryz.func229.trans (congrArg some (by kernel_rfl))⟩
  f27 := ⟨Tryz.f230.name, by decide, Tryz.func230.trans (congrArg some (by kernel_rfl))⟩
  f28 := ⟨Tryz.f231.name, by decide, Tryz.func231.trans (congrArg some (by kernel_rfl))⟩
  f29 := ⟨Tryz.f232.name, by decide, Tryz.func232.trans (congrArg some (by kernel_rfl))⟩
  f31 := Tryz.func237.trans (congrArg some (by kernel_rfl))
  f32 := Tryz.func238.trans (congrArg some (by kernel_rfl))
  f36 := ⟨Tryz.f241.name, by decide, Tryz.func241.trans (congrArg some (by kernel_rfl))⟩
  f37 := ⟨Tryz.f242.name, by decide, Tryz.func242.trans (congrArg some (by kernel_rfl))⟩
  f38 := ⟨Tryz.f243.name, by decide, Tryz.func243.trans (congrArg some (by kernel_rfl))⟩
  f39 := ⟨Tryz.f244.name, by decide, Tryz.func244.trans (congrArg some (by kernel_rfl))⟩
  f41 := ⟨Tryz.f247.name, by decide, Tryz.func247.trans (congrArg some (by kernel_rfl))⟩
  t0 := Tryz.underlying0
  a0 := Tryz.isAgg0
  z0 := Tryz.sizeOf0
  v0 := Tryz.zeroValue0
  t3 := Tryz.underlying3
  a3 := Tryz.isAgg3
  z3 := Tryz.sizeOf3
  v3 := Tryz.zeroValue3
  t4 := Tryz.underlying4
  a4 := Tryz.isAgg4
  z4 := Tryz.sizeOf4
  v4 := Tryz.zeroValue4
  t5 := Tryz.underlying5
  a5 := Tryz.isAgg5
  z5 := Tryz.sizeOf5
  v5 := Tryz.zeroValue5
  t9 := Tryz.underlying9
  a9 := Tryz.isAgg9
  z9 := Tryz.sizeOf9
  v9 := Tryz.zeroValue9
  t26 := Tryz.underlying22
  a26 := Tryz.isAgg22
  z26 := Tryz.sizeOf22
  v26 := Tryz.zeroValue22
  t27 := Tryz.underlying22
  a27 := Tryz.isAgg22
  z27 := Tryz.sizeOf22
  v27 := Tryz.zeroValue22
  t29 := Tryz.underlying9
  a29 := Tryz.isAgg9
  z29 := Tryz.sizeOf9
  v29 := Tryz.zeroValue9
  t32 := Tryz.underlying246
  a32 := Tryz.isAgg246
  z32 := Tryz.sizeOf246
  v32 := Tryz.zeroValue246
  t35 := Tryz.underlying254
  a35 := Tryz.isAgg254
  z35 := Tryz.sizeOf254
  v35 := Tryz.zeroValue254
  t36 := Tryz.underlying255
  a36 := Tryz.isAgg255
  z36 := Tryz.sizeOf255
  v36 := Tryz.zeroValue255
  t41 := Tryz.underlying206
  a41 := Tryz.isAgg206
  z41 := Tryz.sizeOf206
  v41 := Tryz.zeroValue206
  t44 := Tryz.underlying262
  a44 := Tryz.isAgg262
  z44 := Tryz.sizeOf262
  v44 := Tryz.zeroValue262
  t46 := Tryz.underlying264
  a46 := Tryz.isAgg264
  z46 := Tryz.sizeOf264
  v46 := Tryz.zeroValue264
  t53 := Tryz.underlying273
  a53 := Tryz.isAgg273
  z53 := Tryz.sizeOf273
  v53 := Tryz.zeroValue273
  t57 := Tryz.underlying277
  a57 := Tryz.isAgg277
  z57 := Tryz.sizeOf277
  v57 := Tryz.zeroValue277
  t63 := Tryz.underlying281
  a63 := Tryz.isAgg281
  z63 := Tryz.sizeOf281
  v63 := Tryz.zeroValue281
  t64 := Tryz.underlying282
  a64 := Tryz.isAgg282
  z64 := Tryz.sizeOf282
  v64 := Tryz.zeroValue282 }
end Go.Proofs

set_option linter.unusedVariables false
set_option linter.unusedSimpArgs false
set_option linter.unusedSectionVars false
namespace Go.VW
open Go.Maps Go.ChangeMaps Go.MapKept
noncomputable section
/-- How an element reads: all alike. -/
def anyR {H : Type} (v : Value) : Option (DataW H × List MemPlace) := some (.lit (.bool true), [])
def keysD {H : Type} (ks : List Lit) : DataW H := .map ((ks.map fun l => (l, DataW.lit (.bool true))).foldr DataW.insert [])
section
variable {κ : Type} [DecidableEq κ] {P : Program} {kt : TypeId} {kv : κ → Value} {kl : κ → Lit}
theorem own_of_mapAt {H : Type} {w : World} {b : Nat} {es : List (κ × Value)} (h : MapAt kv w.heap[b]? es) (hinj : ∀ x y, kv x = kv y → x = y) (hk : ∀ p ∈ es, keyOf P kt (kv p.1) = some (kl p.1)) (hn : es.length ≤ maxLen) :
    w.ownsMap (H := H) P kt anyR b es.length (keysD (es.map fun p => kl p.1)) := by
  obtain ⟨ents, clock, ho, he, hborn, hbn⟩ := h.ex
  have hlen : ents.size = es.length := by
    have := congrArg List.length he
    simpa [entL] using this
  have hread : ∀ x ∈ ents.toList, ∃ p ∈ es, x.key = kv p.1 := by
    intro x hx
    have : (x.key, x.val) ∈ entL ents := List.mem_map.2 ⟨x, hx, rfl⟩
    rw [he] at this
    obtain ⟨p, hp, e⟩ := List.mem_map.1 this
    exact ⟨p, hp, by simpa using (congrArg Prod.fst e).symm⟩
  refine ⟨ents, clock, ho, ⟨by omega, ⟨hborn, hbn, ?_⟩, ?_⟩, by omega, ?_⟩
  · have e1 : ents.toList.map (·.key) = es.map (fun p => kv p.1) := by
      have := congrArg (List.map Prod.fst) he
      simpa [entL, List.map_map, Function.comp_def] using this
    have e2 : es.map (fun p => kv p.1) = (es.map (·.1)).map kv := by simp [List.map_map, Function.comp_def]
    rw [e1, e2]
    unfold List.Nodup
    rw [List.pairwise_map]
    exact h.nd.imp fun hne e => hne (hinj _ _ e)
  · intro x hx
    obtain ⟨p, hp, hxk⟩ := hread x hx
    exact ⟨_, by unfold WideElems.rd anyR; rw [hxk, hk p hp]; rfl⟩
  · unfold keysD
    congr 2
    have e1 : ents.toList.map (fun x => WideElems.rg (H := H) P kt anyR x) = ents.toList.map (fun x => ((keyOf P kt x.key).getD (.bool false), DataW.lit (.bool true))) := by
      refine List.map_congr_left fun x hx => ?_
      obtain ⟨p, hp, hxk⟩ := hread x hx
      unfold WideElems.rg WideElems.rd anyR
      rw [hxk, hk p hp]; rfl
    rw [show (WideElems.rg (H := H) P kt anyR) = (fun x => WideElems.rg (H := H) P kt anyR x) from rfl, e1]
    have e2 : ents.toList.map (fun x => ((keyOf P kt x.key).getD (.bool false), (DataW.lit (.bool true) : DataW H))) = (entL ents).map (fun q => ((keyOf P kt q.1).getD (.bool false), DataW.lit (.bool true))) := by
      simp [entL, List.map_map, Function.comp_def]
    rw [e2, he, List.map_map, List.map_map]
    refine List.map_congr_left fun p hp => ?_
    simp [Function.comp_def, hk p hp]
end
theorem keysD_ints {H : Type} (ks : List Int) : (intKeys (keysD (H := H) (ks.map (Lit.int .i64)))).Perm ks := by
  unfold keysD intKeys
  refine ((Go.WideShapes.sorted_perm _).map _).trans (List.Perm.of_eq ?_)
  simp [List.map_map, Function.comp_def, Go.intOf]
theorem keysD_size {H : Type} (ks : List Lit) : Maps.size (keysD (H := H) ks) = ks.length := by
  unfold keysD
  show ((ks.map fun l => (l, DataW.lit (H := H) (.bool true))).foldr DataW.insert []).length = _
  rw [(Go.WideShapes.sorted_perm _).length_eq]
  simp
theorem Own.of_row {w : World} {n k m : Nat} {e : TypeId} {v : Value} {xs : List Value} (h : w.ownsRow n e k v m xs) : Own k e w v m xs ∧ ∀ b, v.ownBlock = some b → n ≤ b := by
  obtain ⟨h1, h2⟩ := h
  rcases h2 with ⟨rfl, rfl⟩ | ⟨g, cap, cur, rfl, hb, hg⟩
  · exact ⟨⟨h1, .inl ⟨rfl, rfl⟩⟩, fun b hb => by simp [Value.ownBlock] at hb⟩
  · exact ⟨⟨h1, .inr ⟨g, cap, cur, rfl, Nat.zero_le _, hg⟩⟩, fun b hb' => by simp [Value.ownBlock] at hb'; omega⟩
theorem wf_i64 {n : Int} (h0 : -9223372036854775808 ≤ n) (h1 : n ≤ 9223372036854775807) : (Lit.int .i64 n).wf = true := by
  have e1 : IntKind.i64.min = -9223372036854775808 := by decide
  have e2 : IntKind.i64.max = 9223372036854775807 := by decide
  simp only [Lit.wf, e1, e2, Bool.and_eq_true, decide_eq_true_eq]
  omega
theorem keyOf_i64_mk {P : Program} {kt : TypeId} (hk : P.underlying kt = some (.int .i64)) {n : Int} (h0 : -9223372036854775808 ≤ n) (h1 : n ≤ 9223372036854775807) : keyOf P kt (.int .i64 n) = some (.int .i64 n) := by
  simp [keyOf, hk, mapKey, wf_i64 h0 h1]
end
end Go.VW

set_option linter.unusedVariables false
namespace Go.Proofs.YtomlgkecckffeaaGreat
open Go.RowKit Go.Maps Go.Sort Go.Shelf Go.VW
def bl (s : ByteArray) : List UInt8 := s.data.toList
theorem encStr_bl (s : ByteArray) : encStr (bl s) = .string s := by
 cases s; rfl
theorem sortsM (m : Nat) : AnyZ.SortsIn Tryz.prog YtomlgkecckffeaaGreat.sM_ren Fence.wide m :=
 ⟨fun blk off cap ss W hH hblk hsz => callsIn_wide.2 (AnyM.slices_Sort_string YtomlgkecckffeaaGreat.tM blk off cap ss W hH hblk hsz),
  fun p cap W => callsIn_wide.2 (AnyM.slices_Sort_string_none YtomlgkecckffeaaGreat.tM p cap W)⟩
theorem un9s : Tryz.prog.underlying 9 = some .string := by kernel_rfl
def sortB (l : List (List UInt8)) : List (List UInt8) := l.mergeSort leB
theorem keysD_strs {H : Type} (ks : List (List UInt8)) : (strKeys (keysD (H := H) (ks.map Lit.string))).Perm ks := by
 unfold keysD strKeys
 refine ((Go.WideShapes.sorted_perm _).map _).trans (List.Perm.of_eq ?_)
 simp [List.map_map, Function.comp_def, Go.strOf]

theorem keysEnt {mb : Option Nat} {w : World} {K : Value → World → Prop} (hK : K (.func (.func 177) #[] #[.pointer (some ⟨w.heap.size, 0, none⟩)]) (w.alloc (.cells #[.map mb] 192))) : CallsN Tryz.prog 139 [.map mb] w K :=
 CallsN.of ((callsIn_wide.1 (AnyZ.keys_in YtomlgkecckffeaaGreat.kM Fence.wide 5 trivial rfl mb w)).mono fun e w' h => by
  obtain ⟨rfl, rfl⟩ := h
  exact ⟨_, rfl, hK⟩)
theorem sortedEnt {w : World} {b : Nat} {es : List (ByteArray × Value)} {K : Value → World → Prop} (h : MapAt Value.string w.heap[b]? es) (hb : ∀ p ∈ es, p.1.size ≤ maxLen) (hn : es.length ≤ 1000000000)
  (hK : ∀ v w', Own 1 9 w' v es.length ((sortB (es.map fun p => bl p.1)).map encStr) → Fr [] w w' → (∀ g, v.ownBlock = some g → w.heap.size ≤ g) → K v w') :
  CallsN Tryz.prog 138 [.func (.func 177) #[] #[.pointer (some ⟨w.heap.size, 0, none⟩)]] (w.alloc (.cells #[.map (some b)] 192)) K := by
 have hown := own_of_mapAt (H := Unit) (P := Tryz.prog) (kt := 9) (kl := fun s => Lit.string (bl s)) h (fun x y e => by simpa using e) (fun p hp => Go.WideMaps.keyOf_string_mk un9s (hb p hp)) (by unfold maxLen; omega)
 have hsz := keysD_size (H := Unit) (es.map fun p => Lit.string (bl p.1))
 have hpk := keysD_strs (H := Unit) (es.map fun p => bl p.1)
 rw [List.map_map] at hpk
 generalize hD : keysD (H := Unit) (es.map fun p => Lit.string (bl p.1)) = D0 at hown hsz
 have hpk' : (strKeys D0).Perm (es.map fun p => bl p.1) := by rw [← hD]; exact hpk
 have hbl := hown.lt
 have hmax : Maps.size D0 ≤ maxLen := by rw [hsz]; unfold maxLen; simp; omega
 have hseq : SeqGives Fence.wide 2 Tryz.prog 177 #[.pointer (some ⟨w.heap.size, 0, none⟩)] encStr (fun ss => ss.Perm (strKeys D0)) (Maps.size D0) (w.alloc (.cells #[.map (some b)] 192)) :=
  AnyZ.keys_gives (ρ := YtomlgkecckffeaaGreat.kM_ren) { YtomlgkecckffeaaGreat.kM with } Fence.wide _ trivial rfl (by omega) w.heap.size b es.length D0 _ (by simp) (by simp) (by
   obtain ⟨es', clock, hb', Ft, hs, hD'⟩ := hown
   exact ⟨es', clock, (Below.heap_alloc _ _ b hbl).trans hb', Ft, hs, hD'⟩)
 have cS := AnyZ.sorted_in YtomlgkecckffeaaGreat.sM Fence.wide 5 trivial trivial trivial trivial rfl (by omega) (sortsM _) (enters_of Tryz.func176 (by kernel_rfl) rfl) 177 #[.pointer (some ⟨w.heap.size, 0, none⟩)] trivial (enters_of Tryz.func177 (by kernel_rfl) rfl) _ _ hmax (by rw [hsz]; simp; omega) _ hseq
 change CallsIn _ _ Tryz.prog 138 _ _ _ at cS
 refine CallsN.of ((callsIn_wide.1 cS).mono fun e w' h => ?_)
 obtain ⟨v, ss, rfl, hS, hrow, hnil, hbelow⟩ := h
 have hp := hS.trans hpk'
 have hm : ss.mergeSort (fun x y => decide (x ≤ y)) = sortB (es.map fun p => bl p.1) := mergeSort_of_perm hp
 rw [hm] at hrow
 have hl : ss.length = es.length := by rw [hp.length_eq]; simp
 rw [hl] at hrow
 obtain ⟨ho, hfr⟩ := Own.of_row hrow
 refine ⟨v, rfl, hK v w' ho (((Fr.refl [] w).alloc _).trans' (Fr.of_below hbelow)) fun g hg => ?_⟩
 have := hfr g hg
 rw [size_alloc] at this
 omega
end Go.Proofs.YtomlgkecckffeaaGreat

set_option linter.unusedVariables false
set_option linter.unusedSimpArgs false
set_option maxRecDepth 10000
namespace Go.Proofs.YtomlgkecckffeaaGreat
open Go.VW
def findE (l : Ents) (x lo hi : Int) : Option Ent := (l.filter fun e => meetsE e x lo hi).getLast?
theorem findE_at {l : Ents} {x lo hi : Int} {j : Nat} {e : Ent} (he : l[j]? = some e) (hm : meetsE e x lo hi = true) (hn : ∀ t e', j < t → l[t]? = some e' → meetsE e' x lo hi = false) : findE l x lo hi = some e := by
 obtain ⟨g1, g2⟩ := List.getElem?_eq_some_iff.1 he
 have hl : l = l.take j ++ e :: l.drop (j + 1) := by
  conv => lhs; rw [← List.take_append_drop j l, List.drop_eq_getElem_cons g1, g2]
 have h0 : (l.drop (j + 1)).filter (fun e => meetsE e x lo hi) = [] := by
  rw [List.filter_eq_nil_iff]
  intro a ha
  obtain ⟨t, ht⟩ := List.getElem?_of_mem ha
  rw [List.getElem?_drop] at ht
  rw [hn (j + 1 + t) a (by omega) ht]
  simp
 unfold findE
 rw [hl, List.filter_append, List.filter_cons, if_pos hm, h0]
 simp
theorem findE_none {l : Ents} {x lo hi : Int} (hn : ∀ (t : Nat) (e' : Ent), l[t]? = some e' → meetsE e' x lo hi = false) : findE l x lo hi = none := by
 unfold findE
 have : l.filter (fun e => meetsE e x lo hi) = [] := by
  rw [List.filter_eq_nil_iff]
  intro a ha
  obtain ⟨t, ht⟩ := List.getElem?_of_mem ha
  rw [hn t a ht]
  simp
 rw [this]; rfl
set_option maxHeartbeats 8000000 in
theorem Find_spec {w : World} {tb : Nat} {S : List Nat} {T : Tab} {N : Nat} {k : ByteArray} {x plo phi : Int} {K : Value → World → Prop} (h : TabAt w tb S T) (hwf : T.WF N) (hN : N ≤ 1000000000000)
  (hK : ∀ w', Fr [] w w' → K (.tuple ([.agg (encEnt ((findE (T.row k) x plo phi).getD entZ)).toArray, .bool (findE (T.row k) x plo phi).isSome] : List Value).toArray) w') :
  CallsN Tryz.prog 80 [.pointer (some ⟨tb, 0, none⟩), .string k, .int .i64 x, .agg ([.int .i64 plo, .int .i64 phi] : List Value).toArray] w K := by
 have cw := cur w
 refine call80 ?_
 simp (maxSteps:=9^7)(disch:=first|assumption|(simp only[dz];first|done|assumption|omega)|omega|apply_rules[Fr.refl,Fr.alloc,Fr.drew]|rfl) only [↓gd,gp,Nat.reduceAdd,Nat.reduceEqDiff, ↓hk80]
 generalize hW : World.alloc _ _ = w1
 have hf1 : Fr [] w w1 := by rw [← hW]; (repeat first|exact Fr.refl _ _|assumption|with_reducible first|apply Fr.alloc|apply Fr.drew|refine Fr.setB ?_ _ _ (.inr (by first|omega|(simp only[gz];omega)))|refine Fr.setB ?_ _ _ (.inl (by first|assumption|simp))|refine Fr.trans' ?_ (by assumption))
 have hz1 : w1.heap.size = w.heap.size + 2 := by rw [← hW]; simp only [gz]
 have gp1 : w1.heap[w.heap.size]? = some (.cells ([.int .i64 plo, .int .i64 phi] : List Value).toArray 48 (0, 0)) := by rw [← hW]; simp (maxSteps:=9^7)(disch:=first|assumption|(simp only[dz];first|done|assumption|omega)|omega|apply_rules[Fr.refl,Fr.alloc,Fr.drew]|rfl) only [↓gsd,gs,gv,Nat.reduceAdd,Nat.reduceEqDiff]
 have ge1 : w1.heap[w.heap.size + 1]? = some (.cells (encEnt entZ).toArray 52 (0, 0)) := by rw [← hW]; simp (maxSteps:=9^7)(disch:=first|assumption|(simp only[dz];first|done|assumption|omega)|omega|apply_rules[Fr.refl,Fr.alloc,Fr.drew]|rfl) only [↓gsd,gs,gv,Nat.reduceAdd,Nat.reduceEqDiff, encEnt]
 clear hW
 have cw1 := cur w1
 refine row_spec (h.frN hf1) fun v hv _ => ?_
 have hsl : SlOf 8 encEnt w1 v (T.row k) := hv.sl
 have hll := hwf.len k
 generalize T.row k = l at hsl hll hK hv ⊢
 obtain ⟨va, vc, hvf⟩ := hsl.form
 have wr0 : IntKind.i64.wrap ((l.length : Int) - 1) = (l.length : Int) - 1 := wrap64 (by omega) (by omega)
 simp (maxSteps:=9^7)(disch:=first|assumption|(simp only[dz];first|done|assumption|omega)|omega|apply_rules[Fr.refl,Fr.alloc,Fr.drew]|rfl) only [↓gd,gp,Nat.reduceAdd,Nat.reduceEqDiff, ↓hk80, hvf, wr0]
 rw [← hvf]
 refine loop_intro (fun e w' => ∃ j : Nat, j ≤ l.length ∧ e 2 = .int .i64 x ∧ e 7 = .pointer (some ⟨w.heap.size, 0, none⟩) ∧ e 8 = .pointer (some ⟨w.heap.size + 1, 0, none⟩) ∧ e 9 = .bool false ∧ e 10 = v ∧ e 11 = .int .i64 ((j : Int) - 1) ∧ (∀ t e', j ≤ t → l[t]? = some e' → meetsE e' x plo phi = false) ∧ Fr [] w1 w')
  (fun e _ => (numOf (e 11) + 1).toNat) ?_ ?_
 ·refine ⟨l.length, Nat.le_refl _, ?_⟩
  simp (maxSteps:=9^7)(disch:=first|assumption|(simp only[dz];first|done|assumption|omega)|omega|apply_rules[Fr.refl,Fr.alloc,Fr.drew]|rfl) only [↓gsd,gs,gv,Nat.reduceAdd,Nat.reduceEqDiff, hvf]
  exact ⟨fun t e' ht he => by have := (List.getElem?_eq_some_iff.1 he).1; omega, Fr.refl _ _⟩
 rintro e w2 kk ⟨j, hj, e2, e7, e8, e9, e10, e11, hn, hf2⟩ hk
 have cw2 := cur w2
 have hz2 := hf2.size
 have gp2 := hf2.getN gp1
 have ge2 := hf2.getN ge1
 have hlp2 := lt_of_get _ _ gp2
 have hle2 := lt_of_get _ _ ge2
 cases j with
 | zero =>
   have d : decide ((0 : Int) ≤ ((0 : Nat) : Int) - 1) = false := rfl
   have hf0 := findE_none (x := x) (lo := plo) (hi := phi) (fun t e' he => hn t e' (Nat.zero_le _) he)
   rw [hf0] at hK
   unfold encEnt at ge2 hK
   simp (maxSteps:=9^7)(disch:=first|assumption|(simp only[dz];first|done|assumption|omega)|omega|apply_rules[Fr.refl,Fr.alloc,Fr.drew]|rfl) only [↓gd,gp,Nat.reduceAdd,Nat.reduceEqDiff, ↓hk80, e2, e7, e8, e9, e10, e11, d, ge2]
   exact hK _ ((hf1.trans' hf2).setB _ _ (.inr (by omega)))
 | succ j =>
   have ej : (((j + 1 : Nat) : Int) - 1) = (j : Int) := by omega
   rw [ej] at e11
   have d : decide ((0 : Int) ≤ (j : Int)) = true := decide_eq_true (by omega)
   obtain ⟨y, hy⟩ : ∃ y, l[j]? = some y := ⟨l[j]'(by omega), List.getElem?_eq_getElem (by omega)⟩
   have hsl2 := SlOf.frN hsl hf2
   obtain ⟨bb, off, cap, ob, hv1, hob, hobl, hrow, _⟩ := hsl2.read encEnt_len j y hy
   have hfr := fun orig K => factRead hsl2 hy hv1 hob orig K
   have j0 : (0 : Int) ≤ (j : Int) := by omega
   have j1 : (j : Int) < (l.length : Int) := by omega
   simp (maxSteps:=9^7)(disch:=first|assumption|(simp only[dz];first|done|assumption|omega)|omega|apply_rules[Fr.refl,Fr.alloc,Fr.drew]|rfl) only [↓gd,gp,Nat.reduceAdd,Nat.reduceEqDiff, ↓hk80, e2, e7, e8, e9, e10, e11, hv1, d, j0, j1, Int.toNat_natCast, hob, hfr, gp2]
   refine meets_spec (e := y) fun w3 hf3 => ?_
   have cw3 := cur w3
   have hfd : Fr [] w2 w3 := (Fr.refl _ _).drew.trans' hf3
   have hz3 := hfd.size
   have ge3 := hfd.getN ge2
   have hle3 := lt_of_get _ _ ge3
   have hsl3 := SlOf.frN hsl2 hfd
   have hob3 := hfd.getN hob
   have hobl3 := lt_of_get _ _ hob3
   cases hm : meetsE y x plo phi with
   | true =>
     have hf0 := findE_at hy hm (fun t e' ht he => hn t e' (by omega) he)
     rw [hf0] at hK
     unfold encEnt at ge3 hK hrow
     simp (maxSteps:=9^7)(disch:=first|assumption|(simp only[dz];first|done|assumption|omega)|omega|apply_rules[Fr.refl,Fr.alloc,Fr.drew]|rfl) only [↓gd,gp,Nat.reduceAdd,Nat.reduceEqDiff, ↓hk80, e2, e7, e8, e9, e10, e11, hv1, hm, j0, j1, Int.toNat_natCast, hob3, hrow, ge3]
     exact hK _ (((hf1.trans' hf2).trans' hfd).setB _ _ (.inr (by omega)))
   | false =>
     have wr : IntKind.i64.wrap ((j : Int) - 1) = (j : Int) - 1 := wrap64 (by omega) (by omega)
     simp (maxSteps:=9^7)(disch:=first|assumption|(simp only[dz];first|done|assumption|omega)|omega|apply_rules[Fr.refl,Fr.alloc,Fr.drew]|rfl) only [↓gd,gp,Nat.reduceAdd,Nat.reduceEqDiff, ↓hk80, e2, e7, e8, e9, e10, e11, hm, wr]
     refine hk _ _ ⟨j, by omega, ?_⟩ ?_
     ·simp (maxSteps:=9^7)(disch:=first|assumption|(simp only[dz];first|done|assumption|omega)|omega|apply_rules[Fr.refl,Fr.alloc,Fr.drew]|rfl) only [↓gsd,gs,gv,Nat.reduceAdd,Nat.reduceEqDiff, e2, e7, e8, e9, e10, e11, hv1]
      refine ⟨fun t e' ht he => ?_, hf2.trans' hfd⟩
      by_cases hq : t = j
      ·subst hq; rw [hy] at he; cases he; exact hm
      ·exact hn t e' (by omega) he
     ·simp (maxSteps:=9^7)(disch:=first|assumption|(simp only[dz];first|done|assumption|omega)|omega|apply_rules[Fr.refl,Fr.alloc,Fr.drew]|rfl) only [↓gsd,gs,gv,Nat.reduceAdd,Nat.reduceEqDiff, e11, numOf]; omega
end Go.Proofs.YtomlgkecckffeaaGreat

set_option linter.unusedVariables false
set_option linter.unusedSimpArgs false
set_option maxRecDepth 10000
namespace Go.Proofs.YtomlgkecckffeaaGreat
open Go.VW
def unbl (l : List UInt8) : ByteArray := ⟨l.toArray⟩
theorem bl_unbl (l : List UInt8) : bl (unbl l) = l := by simp [bl, unbl]
theorem unbl_bl (b : ByteArray) : unbl (bl b) = b := by cases b; simp [bl, unbl]
def keysOf (ks : List ByteArray) : List ByteArray := (sortB (ks.map bl)).map unbl
theorem keysOf_mem (ks : List ByteArray) (s : ByteArray) : s ∈ keysOf ks ↔ s ∈ ks := by
 unfold keysOf sortB
 rw [List.mem_map]
 constructor
 ·rintro ⟨x, hx, rfl⟩
  rw [(List.mergeSort_perm _ _).mem_iff, List.mem_map] at hx
  obtain ⟨y, hy, rfl⟩ := hx
  rw [unbl_bl]; exact hy
 ·intro hs
  exact ⟨bl s, by rw [(List.mergeSort_perm _ _).mem_iff]; exact List.mem_map.2 ⟨s, hs, rfl⟩, unbl_bl s⟩
theorem keysOf_len (ks : List ByteArray) : (keysOf ks).length = ks.length := by simp [keysOf, sortB]
theorem keysOf_enc (ks : List ByteArray) : (sortB (ks.map bl)).map encStr = (keysOf ks).map Value.string := by
 unfold keysOf
 rw [List.map_map]
 apply List.map_congr_left
 intro x _
 show encStr x = Value.string (unbl x)
 rw [← encStr_bl, bl_unbl]
end Go.Proofs.YtomlgkecckffeaaGreat

set_option linter.unusedVariables false
set_option linter.unusedSimpArgs false
set_option maxRecDepth 10000
namespace Go.Proofs.YtomlgkecckffeaaGreat
open Go.VW
theorem own_ne {k k' n n' : Nat} {e e' : TypeId} {w : World} {v v' : Value} {cs cs' : List Value} (h : Own k e w v n cs) (h' : Own k' e' w v' n' cs') (he : e ≠ e') : ∀ b, v.ownBlock = some b → v'.ownBlock ≠ some b := by
 intro b hb hb'
 rcases h.2 with ⟨rfl, _⟩ | ⟨g, cap, cur, rfl, _, hg, _⟩
 ·simp [Value.ownBlock] at hb
 ·rcases h'.2 with ⟨rfl, _⟩ | ⟨g', cap', cur', rfl, _, hg', _⟩
  ·simp [Value.ownBlock] at hb'
  ·simp [Value.ownBlock] at hb hb'
   subst hb; subst hb'
   rw [hg] at hg'
   cases hg'
   exact he rfl
abbrev encS (k : ByteArray) : List Value := [.string k]
theorem encS_len (k : ByteArray) : (encS k).length = 1 := rfl
theorem cellsS (l : List ByteArray) : cellsOf encS l = l.map Value.string := by
 induction l with
 | nil => rfl
 | cons x l ih => simp only [cellsOf, List.flatMap_cons, encS, List.map_cons] at *; rw [ih]; rfl
def allE (T : Tab) (ks : List ByteArray) : Ents := ks.flatMap T.row
theorem allE_snoc (T : Tab) (ks : List ByteArray) (k : ByteArray) : allE T (ks ++ [k]) = allE T ks ++ T.row k := by unfold allE; simp
set_option maxHeartbeats 8000000 in
theorem all_specM {w : World} {tb bm : Nat} {S : List Nat} {T : Tab} {es : List (ByteArray × Value)} {K : Value → World → Prop} (h1 : w.heap[tb]? = some (.cells ([.map (some bm), .int .i64 T.n, .int .i64 T.bytes] : List Value).toArray 194 (0, 0))) (hr : RowsM w S bm T.rows es) (h4 : ∀ x ∈ S, x < w.heap.size)
  (hk : ∀ k ∈ T.rows.map (·.1), k.size ≤ 32) (hn : T.rows.length ≤ 1000000000) (hB : (allE T (keysOf (T.rows.map (·.1)))).length ≤ 1700000000000)
  (hK : ∀ v w', Own 8 52 w' v (allE T (keysOf (T.rows.map (·.1)))).length (cellsOf encEnt (allE T (keysOf (T.rows.map (·.1))))) → (∀ g, v.ownBlock = some g → w.heap.size ≤ g) → Fr [] w w' → K v w') : CallsN Tryz.prog 68 [.pointer (some ⟨tb, 0, none⟩)] w K := by
 have cw := cur w
 have hlt := lt_of_get _ _ h1
 refine call68 ?_
 simp (maxSteps:=9^7)(disch:=first|assumption|(simp only[dz];first|done|assumption|omega)|omega|apply_rules[Fr.refl,Fr.alloc,Fr.drew]|rfl) only [↓gd,gp,Nat.reduceAdd,Nat.reduceEqDiff, ↓hk68, h1]
 refine keysEnt ?_
 try simp (maxSteps:=9^7)(disch:=first|assumption|(simp only[dz];first|done|assumption|omega)|omega|apply_rules[Fr.refl,Fr.alloc,Fr.drew]|rfl) only [↓gd,gp,Nat.reduceAdd,Nat.reduceEqDiff, ↓hk68]
 have hlen : es.length = T.rows.length := by have := congrArg List.length hr.keys; simpa using this
 refine sortedEnt hr.map (fun p hp => ?_) (by omega) fun v w1 hown hf hfr => ?_
 ·have := hk p.1 (by rw [← hr.keys]; exact List.mem_map.2 ⟨p, hp, rfl⟩)
  unfold maxLen; omega
 have cw1 := cur w1
 have hz1 := hf.size
 have e : es.map (fun p => bl p.1) = (T.rows.map (·.1)).map bl := by rw [← hr.keys, List.map_map]; rfl
 have hl2 : (keysOf (T.rows.map (·.1))).length = es.length := by rw [keysOf_len, List.length_map, hlen]
 rw [e, keysOf_enc, ← hl2, ← cellsS] at hown
 generalize keysOf (T.rows.map (·.1)) = ks at hown hB hK hl2
 have hsl : SlOf 1 encS w1 v ks := hown.sl
 obtain ⟨va, vc, hvf⟩ := hsl.form
 simp (maxSteps:=9^7)(disch:=first|assumption|(simp only[dz];first|done|assumption|omega)|omega|apply_rules[Fr.refl,Fr.alloc,Fr.drew]|rfl) only [↓gd,gp,Nat.reduceAdd,Nat.reduceEqDiff, ↓hk68, hvf]
 rw [← hvf]
 refine loop_intro (fun e w' => ∃ (i : Nat) (vo : Value), i ≤ ks.length ∧ e 0 = .pointer (some ⟨tb, 0, none⟩) ∧ e 3 = vo ∧ e 13 = v ∧ e 14 = .int .i64 ks.length ∧ e 15 = .int .i64 i ∧ Own 8 52 w' vo (allE T (ks.take i)).length (cellsOf encEnt (allE T (ks.take i))) ∧ (∀ g, vo.ownBlock = some g → w.heap.size ≤ g) ∧ Own 1 9 w' v ks.length (cellsOf encS ks) ∧ Fr [] w w')
  (fun e _ => ks.length - (numOf (e 15)).toNat) ?_ ?_
 ·refine ⟨0, sliceZ, Nat.zero_le _, ?_⟩
  simp (maxSteps:=9^7)(disch:=first|assumption|(simp only[dz];first|done|assumption|omega)|omega|apply_rules[Fr.refl,Fr.alloc,Fr.drew]|rfl) only [↓gsd,gs,gv,Nat.reduceAdd,Nat.reduceEqDiff, hvf, Int.natCast_zero]
  exact ⟨Own.nil, fun g hg => by simp [Value.ownBlock] at hg, hvf ▸ hown, hf⟩
 rintro e w2 kk ⟨i, vo, hi, e0, e3, e13, e14, e15, ho, hbo, hown2, hf2⟩ hkk
 have cw2 := cur w2
 obtain ⟨oa, oc, hvo⟩ := ho.sl.form
 by_cases hil : i < ks.length
 ·have d : decide ((i : Int) < (ks.length : Int)) = true := decide_eq_true (by omega)
  obtain ⟨k, hki⟩ : ∃ k, ks[i]? = some k := ⟨ks[i], List.getElem?_eq_getElem hil⟩
  have hf12 : Fr [] w w2 := hf2
  obtain ⟨bb, off, cap, ob, hv1, hob, _, _, hc⟩ := (show SlOf 1 encS w2 v ks from hown2.sl).read encS_len i k hki
  have hc' := fun orig K => hc 0 (.string k) orig K rfl
  simp only [Nat.mul_one, Nat.add_zero] at hc'
  have i0 : (0 : Int) ≤ (i : Int) := by omega
  have i1 : (i : Int) < (ks.length : Int) := by omega
  have wr : IntKind.i64.wrap ((i : Int) + 1) = (i : Int) + 1 := wrap64 (by omega) (by omega)
  have i3 : ((i : Int) + 1).toNat = i + 1 := by omega
  have hh2 := hf2.getN h1
  have hlt2 := lt_of_get _ _ hh2
  have hr2 : RowsM w2 S bm T.rows es := hr.fr h4 hf2 (by simp)
  obtain ⟨ents, clock, hbm, _⟩ := id hr2.map.ex
  have hm := hr2.map
  rw [hbm] at hm
  have hmv := fun orig K => mapV_at inj_string hm orig K
  obtain ⟨g1, _⟩ := hr2.get k
  change Own 8 52 w2 ((aget es k).getD sliceZ) (T.row k).length (cellsOf encEnt (T.row k)) at g1
  have htk : ks.take (i + 1) = ks.take i ++ [k] := by rw [List.take_add_one, hki]; rfl
  have hsum : (allE T (ks.take i)).length + (T.row k).length ≤ 1700000000000 := by
   have : allE T ks = allE T (ks.take (i + 1)) ++ allE T (ks.drop (i + 1)) := by unfold allE; rw [← List.flatMap_append, List.take_append_drop]
   rw [this, htk, allE_snoc] at hB
   simp only [List.length_append] at hB
   omega
  obtain ⟨v3, w3, hr3, hown3, hf3, hbk3⟩ := ap41 (ty := 41) ho g1.sl (cellsE_one _) (by omega)
  have cw3 := cur w3
  rw [hvo] at hr3
  simp (maxSteps:=9^7)(disch:=first|assumption|(simp only[dz];first|done|assumption|omega)|omega|apply_rules[Fr.refl,Fr.alloc,Fr.drew]|rfl) only [↓gd,gp,Nat.reduceAdd,Nat.reduceEqDiff, ↓hk68, e0, e3, e13, e14, e15, hv1, hvo, d, i0, i1, Int.toNat_natCast, Nat.mul_one, hob, hc', hh2, hbm, hmv, hr3]
  refine hkk _ _ ⟨i + 1, v3, by omega, ?_⟩ ?_
  ·simp (maxSteps:=9^7)(disch:=first|assumption|(simp only[dz];first|done|assumption|omega)|omega|apply_rules[Fr.refl,Fr.alloc,Fr.drew]|rfl) only [↓gsd,gs,gv,Nat.reduceAdd,Nat.reduceEqDiff, e0, e3, e13, e14, e15, hv1, wr, Int.natCast_add i 1, Int.natCast_one]
   refine ⟨?_, fun g hg => ?_, by rw [← hv1]; exact hown2.fr hf3 fun x hx e => own_ne hown2 ho (by decide) x e (mem_blkL.1 hx), hf2.trans hf3 fun y hy => .inr (hbo y (mem_blkL.1 hy))⟩
   ·rw [htk, allE_snoc, cellsOf_append, List.length_append]; exact hown3
   ·rcases hbk3 with q | ⟨b', q1, q2⟩
    ·exact hbo g (q ▸ hg)
    ·rw [q1] at hg; cases hg; have := hf2.size; omega
  ·simp (maxSteps:=9^7)(disch:=first|assumption|(simp only[dz];first|done|assumption|omega)|omega|apply_rules[Fr.refl,Fr.alloc,Fr.drew]|rfl) only [↓gsd,gs,gv,Nat.reduceAdd,Nat.reduceEqDiff, e15, wr, numOf, Int.toNat_natCast, i3]; omega
 ·have d : decide ((i : Int) < (ks.length : Int)) = false := decide_eq_false (by omega)
  have hi' : ks.take i = ks := List.take_of_length_le (by omega)
  rw [hi'] at ho
  simp (maxSteps:=9^7)(disch:=first|assumption|(simp only[dz];first|done|assumption|omega)|omega|apply_rules[Fr.refl,Fr.alloc,Fr.drew]|rfl) only [↓gd,gp,Nat.reduceAdd,Nat.reduceEqDiff, ↓hk68, e0, e3, e13, e14, e15, d]
  exact hK _ _ ho hbo hf2
end Go.Proofs.YtomlgkecckffeaaGreat
