/- The generic engine, part 10: a map's keys, collected and sorted, told of an entry list. -/
import Derived.Test.YtgloomahpjpiiaaC9
import Derived.Maps.Range
import Derived.Lib.SlKeysI
set_option linter.unusedVariables false
set_option linter.unusedSimpArgs false
set_option linter.unusedSectionVars false
namespace Go.VW
open Go.Maps Go.ChangeMaps Go.MapKept
noncomputable section
/-- How an element reads: all alike. -/
def anyR {H : Type} (v : Value) : Option (DataW H × List MemPlace) := some (.lit (.bool true), [])
def keysD {H : Type} (ks : List Lit) : DataW H := .map ((ks.map fun l => (l, DataW.lit (.bool true))).foldr DataW.insert [])
section
variable {κ : Type} [DecidableEq κ] {P : Program} {kt : TypeId} {kv : κ → Value} {kl : κ → Lit}
theorem own_of_mapAt {H : Type} {w : World} {b : Nat} {es : List (κ × Value)} (h : MapAt kv w.heap[b]? es) (hinj : ∀ x y, kv x = kv y → x = y) (hk : ∀ p ∈ es, keyOf P kt (kv p.1) = some (kl p.1)) (hn : es.length ≤ maxLen) :
    w.ownsMap (H := H) P kt anyR b es.length (keysD (es.map fun p => kl p.1)) := by
  obtain ⟨ents, clock, ho, he, hborn, hbn⟩ := h.ex
  have hlen : ents.size = es.length := by
    have := congrArg List.length he
    simpa [entL] using this
  have hread : ∀ x ∈ ents.toList, ∃ p ∈ es, x.key = kv p.1 := by
    intro x hx
    have : (x.key, x.val) ∈ entL ents := List.mem_map.2 ⟨x, hx, rfl⟩
    rw [he] at this
    obtain ⟨p, hp, e⟩ := List.mem_map.1 this
    exact ⟨p, hp, by simpa using (congrArg Prod.fst e).symm⟩
  refine ⟨ents, clock, ho, ⟨by omega, ⟨hborn, hbn, ?_⟩, ?_⟩, by omega, ?_⟩
  · have e1 : ents.toList.map (·.key) = es.map (fun p => kv p.1) := by
      have := congrArg (List.map Prod.fst) he
      simpa [entL, List.map_map, Function.comp_def] using this
    have e2 : es.map (fun p => kv p.1) = (es.map (·.1)).map kv := by simp [List.map_map, Function.comp_def]
    rw [e1, e2]
    unfold List.Nodup
    rw [List.pairwise_map]
    exact h.nd.imp fun hne e => hne (hinj _ _ e)
  · intro x hx
    obtain ⟨p, hp, hxk⟩ := hread x hx
    exact ⟨_, by unfold WideElems.rd anyR; rw [hxk, hk p hp]; rfl⟩
  · unfold keysD
    congr 2
    have e1 : ents.toList.map (fun x => WideElems.rg (H := H) P kt anyR x) = ents.toList.map (fun x => ((keyOf P kt x.key).getD (.bool false), DataW.lit (.bool true))) := by
      refine List.map_congr_left fun x hx => ?_
      obtain ⟨p, hp, hxk⟩ := hread x hx
      unfold WideElems.rg WideElems.rd anyR
      rw [hxk, hk p hp]; rfl
    rw [show (WideElems.rg (H := H) P kt anyR) = (fun x => WideElems.rg (H := H) P kt anyR x) from rfl, e1]
    have e2 : ents.toList.map (fun x => ((keyOf P kt x.key).getD (.bool false), (DataW.lit (.bool true) : DataW H))) = (entL ents).map (fun q => ((keyOf P kt q.1).getD (.bool false), DataW.lit (.bool true))) := by
      simp [entL, List.map_map, Function.comp_def]
    rw [e2, he, List.map_map, List.map_map]
    refine List.map_congr_left fun p hp => ?_
    simp [Function.comp_def, hk p hp]
end
theorem keysD_ints {H : Type} (ks : List Int) : (intKeys (keysD (H := H) (ks.map (Lit.int .i64)))).Perm ks := by
  unfold keysD intKeys
  refine ((Go.WideShapes.sorted_perm _).map _).trans (List.Perm.of_eq ?_)
  simp [List.map_map, Function.comp_def, Go.intOf]
theorem keysD_size {H : Type} (ks : List Lit) : Maps.size (keysD (H := H) ks) = ks.length := by
  unfold keysD
  show ((ks.map fun l => (l, DataW.lit (H := H) (.bool true))).foldr DataW.insert []).length = _
  rw [(Go.WideShapes.sorted_perm _).length_eq]
  simp
theorem Own.of_row {w : World} {n k m : Nat} {e : TypeId} {v : Value} {xs : List Value} (h : w.ownsRow n e k v m xs) : Own k e w v m xs ∧ ∀ b, v.ownBlock = some b → n ≤ b := by
  obtain ⟨h1, h2⟩ := h
  rcases h2 with ⟨rfl, rfl⟩ | ⟨g, cap, cur, rfl, hb, hg⟩
  · exact ⟨⟨h1, .inl ⟨rfl, rfl⟩⟩, fun b hb => by simp [Value.ownBlock] at hb⟩
  · exact ⟨⟨h1, .inr ⟨g, cap, cur, rfl, Nat.zero_le _, hg⟩⟩, fun b hb' => by simp [Value.ownBlock] at hb'; omega⟩
theorem wf_i64 {n : Int} (h0 : -9223372036854775808 ≤ n) (h1 : n ≤ 9223372036854775807) : (Lit.int .i64 n).wf = true := by
  have e1 : IntKind.i64.min = -9223372036854775808 := by decide
  have e2 : IntKind.i64.max = 9223372036854775807 := by decide
  simp only [Lit.wf, e1, e2, Bool.and_eq_true, decide_eq_true_eq]
  omega
theorem keyOf_i64_mk {P : Program} {kt : TypeId} (hk : P.underlying kt = some (.int .i64)) {n : Int} (h0 : -9223372036854775808 ≤ n) (h1 : n ≤ 9223372036854775807) : keyOf P kt (.int .i64 n) = some (.int .i64 n) := by
  simp [keyOf, hk, mapKey, wf_i64 h0 h1]
end
end Go.VW
