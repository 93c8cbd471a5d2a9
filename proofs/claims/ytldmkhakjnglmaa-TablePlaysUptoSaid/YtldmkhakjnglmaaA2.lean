/- slices.Insert and slices.Delete of entries. -/
import Derived.Test.YtldmkhakjnglmaaA1
import Derived.Lib.Overlaps
import Derived.Laws.Externs
set_option linter.unusedVariables false
set_option linter.unusedSimpArgs false
set_option maxRecDepth 10000
namespace Go.Proofs.Ytldmkhakjnglmaa
open Go.VW
def insL (l : Ents) (i : Nat) (x : Ent) : Ents := l.take i ++ x :: l.drop i
def delL (l : Ents) (i : Nat) : Ents := l.take i ++ l.drop (i + 1)
theorem uEnts : Try.prog.underlying 27 = some (.slice 36) := by kernel_rfl
theorem cells_take (l : Ents) (i : Nat) : (cellsOf encEnt l).take (i * 8) = cellsOf encEnt (l.take i) := by
  by_cases hi : i ≤ l.length
  · conv => lhs; rw [← List.take_append_drop i l]
    rw [cellsOf_append]
    have h1 : (cellsOf encEnt (l.take i)).length = i * 8 := by rw [cellsOf_length encEnt_len, List.length_take, Nat.min_eq_left hi]
    rw [List.take_append_of_le_length (by omega), List.take_of_length_le (by omega)]
  · rw [List.take_of_length_le (by rw [cellsOf_length encEnt_len]; omega), List.take_of_length_le (by omega)]
theorem ovl_run {w : World} {vb g o lb cb : Nat} {x : Ent} {D : List Value} (hx : Blk w vb 36 (encEnt x)) (hg : Blk w g 36 D) (hne : vb ≠ g) (hD : 0 < D.length) :
    (callFunc 47 [(.slice (some ⟨vb, 0, none⟩) 1 1 : Value), .slice (some ⟨g, o, none⟩) lb cb].toArray).run Try.prog w = .ok (.value (.bool false)) w := by
  rw [run_callFunc_extern (f := 47) (fn := Try.f47) (by kernel_rfl) (by kernel_rfl) (by kernel_rfl) (by kernel_rfl) (e := Extern.SlicesOverlaps.overlaps #[27, 27] #[4]) (by kernel_rfl)]
  rw [Lib.run_overlaps_apart w 27 4 36 uEnts 8 Try.sizeOf36 ⟨vb, 0, none⟩ ⟨g, o, none⟩ 1 1 lb cb hne 36 36 8 D.length (by simp [World.shape?, hx, encEnt]) (by simp [World.shape?, hg]) (by omega) (by simp [World.frozen?, hx]) (by simp [World.frozen?, hx])]
  rfl
end Go.Proofs.Ytldmkhakjnglmaa
