/-
  DERIVED: THE SHELF's CONTRACTS AT THIS DUMP, IN PLAIN WORDS (tools/lay-plain.mjs out of 'YtenokheiindfkaaL2.lean', which tools/lay-shelf.mjs wrote): THE SAME DECLARATIONS UNDER THE SAME NAMES: 'import', 'namespace', 'open', 'def', 'theorem' AND NOTHING ELSE: no command of the shelf's: FOR A HAND-IN. Each laying: the table of numbers ('.._ren') and one theorem, a field a fact of the dump's own or the kernel's comparison; each contract: ONE APPLICATION.
-/
import Derived.Shelf.SlMaps.Clone
import Derived.Ground.SlmcProg
import Derived.Test.YtenokheiindfkaaProg
namespace Go.Proofs
open Go.Shelf
def Ytenokheiindfkaa.cI_ren : Go.Shelf.Ren := ⟨fun | 5 => 75 | 7 => 92 | n => n, fun | 23 => 128 | 25 => 2 | 3 => 3 | 4 => 4 | 20 => 20 | n => n, fun | n => n⟩
theorem Ytenokheiindfkaa.cI : Go.Proofs.SlLaysW.n5 Try.prog Ytenokheiindfkaa.cI_ren := {
  mixed := by kernel_rfl
  f5 := ⟨Try.f75.name, by decide, Try.func75.trans (congrArg some (by kernel_rfl))⟩
  f7 := Try.func92.trans (congrArg some (by kernel_rfl))
  t4 := Try.underlying4
  a4 := Try.isAgg4
  z4 := Try.sizeOf4
  v4 := Try.zeroValue4
  t20 := Try.underlying20
  a20 := Try.isAgg20
  z20 := Try.sizeOf20
  v20 := Try.zeroValue20
  t23 := Try.underlying128
  a23 := Try.isAgg128
  z23 := Try.sizeOf128
  v23 := Try.zeroValue128 }
def Ytenokheiindfkaa.cR_ren : Go.Shelf.Ren := ⟨fun | 5 => 72 | 7 => 92 | n => n, fun | 23 => 123 | 25 => 2 | 3 => 54 | 4 => 4 | 20 => 20 | n => n, fun | n => n⟩
theorem Ytenokheiindfkaa.cR : Go.Proofs.SlLaysW.n5 Try.prog Ytenokheiindfkaa.cR_ren := {
  mixed := by kernel_rfl
  f5 := ⟨Try.f72.name, by decide, Try.func72.trans (congrArg some (by kernel_rfl))⟩
  f7 := Try.func92.trans (congrArg some (by kernel_rfl))
  t4 := Try.underlying4
  a4 := Try.isAgg4
  z4 := Try.sizeOf4
  v4 := Try.zeroValue4
  t20 := Try.underlying20
  a20 := Try.isAgg20
  z20 := Try.sizeOf20
  v20 := Try.zeroValue20
  t23 := Try.underlying123
  a23 := Try.isAgg123
  z23 := Try.sizeOf123
  v23 := Try.zeroValue123 }
end Go.Proofs
