/- The generic engine, part 10: a map's keys, collected and sorted, told of an entry list. -/
import Derived.Test.YtgloomahpjpiiaaGreatC9
import Derived.Maps.Range
import Derived.Lib.SlKeysI
set_option linter.unusedVariables false
set_option linter.unusedSimpArgs false
set_option linter.unusedSectionVars false
namespace Go.VW
open Go.Maps Go.ChangeMaps Go.MapKept
noncomputable section
section
variable {κ : Type} [DecidableEq κ] {P : Program} {kt : TypeId} {kv : κ → Value} {kl : κ → Lit}
end
theorem Own.of_row {w : World} {n k m : Nat} {e : TypeId} {v : Value} {xs : List Value} (h : w.ownsRow n e k v m xs) : Own k e w v m xs ∧ ∀ b, v.ownBlock = some b → n ≤ b := by
  obtain ⟨h1, h2⟩ := h
  rcases h2 with ⟨rfl, rfl⟩ | ⟨g, cap, cur, rfl, hb, hg⟩
  · exact ⟨⟨h1, .inl ⟨rfl, rfl⟩⟩, fun b hb => by simp [Value.ownBlock] at hb⟩
  · exact ⟨⟨h1, .inr ⟨g, cap, cur, rfl, Nat.zero_le _, hg⟩⟩, fun b hb' => by simp [Value.ownBlock] at hb'; omega⟩
end
end Go.VW
