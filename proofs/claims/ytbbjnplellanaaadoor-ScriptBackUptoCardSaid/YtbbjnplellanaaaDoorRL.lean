/- What the rows of this seat share: the listed tables, a world that holds them. -/
import Derived.Test.YtbbjnplellanaaaDoorSD
import Derived.Test.YtbbjnplellanaaaDoorPN
import Derived.Test.YtbbjnplellanaaaDoorRK
import Derived.Test.YtbbjnplellanaaaDoorCards
import Derived.Test.YtbbjnplellanaaaDoorTie
import Derived.Deep.DeepHandedRow
import Derived.Lib.LaidTab
import Derived.LaidSub
import Derived.MakeChecks
import Derived.SizedLaws
namespace Go.Proofs.YtbbjnplellanaaaDoor
open Go.ChangeShapes Go.WideShapes Go.ChangeAt Go.RowKit Go.VW
set_option linter.unusedVariables false
theorem gPow : Tryd.prog.globalNamed "internal/strconv.uint64pow10" = some 3 := by kernel_rfl
theorem gPowT : (Tryd.prog.globals[3]?).map (·.type) = some 124 := by kernel_rfl
theorem cPow : Tryd.prog.cellsOf 124 = 20 := by kernel_rfl
theorem cU64 : Tryd.prog.cellsOf 104 = 1 := by kernel_rfl
set_option maxRecDepth 100000 in
theorem tabP_of {W : World} (h : laidMetH Tryd.prog Rows.scriptParsesRow.laid W) : TabP W := by
 have h1 := h.filter (fun x => x.1 == "internal/strconv.uint64pow10")
 rw [MakeChecks.laidMetH_plain _ _ _ (by kernel_rfl)] at h1
 exact Lib.tabIs_of_head (rest := []) gPow gPowT Tryd.underlying124 Tryd.underlying104 cU64 cPow h1
theorem maxL_of {W : World} (h : W.ShapedOpen Tryd.prog) : MaxL W := cutM.s1_3 W h
/-- A world for the witness: the listed tables hold what their initialisers lay. -/
noncomputable def laidHeap (h : Array Obj) : Array Obj :=
 let put (g : Nat) (cs : Array Value) (h : Array Obj) : Array Obj := h.modify g fun
  | .cells _ t fr => .cells cs t fr
  | o => o
 let u8 (l : List Nat) : Array Value := (l.map fun n : Nat => Value.int .u8 (n : Int)).toArray
 put 1 (u8 Pinned.utf8FirstZ) <|
 put 2 (u8 [128, 191, 160, 191, 128, 159, 144, 191, 128, 143, 0, 0, 0, 0, 0, 0, 0, 0, 0, 0, 0, 0, 0, 0, 0, 0, 0, 0, 0, 0, 0, 0]) <|
 put 3 (([1, 10, 100, 1000, 10000, 100000, 1000000, 10000000, 100000000, 1000000000, 10000000000, 100000000000, 1000000000000, 10000000000000, 100000000000000, 1000000000000000, 10000000000000000, 100000000000000000, 1000000000000000000, 10000000000000000000] : List Int).map (Value.int .u64)).toArray <|
 put 4 (u8 [0, 1, 28, 2, 29, 14, 24, 3, 30, 22, 20, 15, 25, 17, 4, 8, 31, 27, 13, 23, 21, 19, 16, 7, 26, 12, 18, 6, 11, 5, 10, 9]) <|
 put 5 (u8 [0, 1, 56, 2, 57, 49, 28, 3, 61, 58, 42, 50, 38, 29, 17, 4, 62, 47, 59, 36, 45, 43, 51, 22, 53, 39, 33, 30, 24, 18, 12, 5, 63, 55, 48, 27, 60, 41, 37, 16, 46, 35, 44, 21, 52, 32, 23, 11, 54, 26, 40, 15, 34, 20, 31, 10, 25, 14, 19, 9, 13, 8, 7, 6]) h
noncomputable def laidWorld (os : Os) : World := { World.holding Tryd.prog os ⟨#[], #[], []⟩ with heap := laidHeap (World.holding Tryd.prog os ⟨#[], #[], []⟩).heap }
set_option maxRecDepth 100000 in
theorem laid_met (os : Os) (args : Array Value) : laidMet Tryd.prog Rows.scriptParsesRow.laid ((laidWorld os).forCall (fun _ _ => 0) ⟨#[], args, []⟩).memory :=
 laidMet_of_run' 8 (by kernel_rfl) (by kernel_rfl)
end Go.Proofs.YtbbjnplellanaaaDoor
