/- strings.Builder's WriteString: the shelf's contract at this program; what the contracts ask beside. -/
import Derived.Test.YtbbjnplellanaaaDoorSL
namespace Go.Proofs.YtbbjnplellanaaaDoor
open Go.Shelf
def wr_ren : Go.Shelf.Ren := ⟨fun | 166 => 24 | 240 => 44 | 276 => 55 | n => n, fun | 0 => 0 | 3 => 3 | 4 => 4 | 5 => 5 | 9 => 9 | 20 => 20 | 37 => 43 | 70 => 61 | 72 => 63 | 75 => 68 | 80 => 71 | 164 => 95 | 76 => 69 | n => n, fun | n => n⟩
theorem writeC : Go.Proofs.Lays.n166 Tryd.prog wr_ren := {
 mixed := by kernel_rfl
 f166 := Tryd.func24.trans (congrArg some (by kernel_rfl))
 f240 := Tryd.func44.trans (congrArg some (by kernel_rfl))
 f276 := Tryd.func55.trans (congrArg some (by kernel_rfl))
 t0 := Tryd.underlying0
 a0 := Tryd.isAgg0
 z0 := Tryd.sizeOf0
 v0 := Tryd.zeroValue0
 t3 := Tryd.underlying3
 a3 := Tryd.isAgg3
 z3 := Tryd.sizeOf3
 v3 := Tryd.zeroValue3
 t4 := Tryd.underlying4
 a4 := Tryd.isAgg4
 z4 := Tryd.sizeOf4
 v4 := Tryd.zeroValue4
 t9 := Tryd.underlying9
 a9 := Tryd.isAgg9
 z9 := Tryd.sizeOf9
 v9 := Tryd.zeroValue9
 t20 := Tryd.underlying20
 a20 := Tryd.isAgg20
 z20 := Tryd.sizeOf20
 v20 := Tryd.zeroValue20
 t37 := Tryd.underlying43
 a37 := Tryd.isAgg43
 z37 := Tryd.sizeOf43
 v37 := Tryd.zeroValue43
 t70 := Tryd.underlying61
 a70 := Tryd.isAgg61
 z70 := Tryd.sizeOf61
 v70 := Tryd.zeroValue61
 t72 := Tryd.underlying63
 a72 := Tryd.isAgg63
 z72 := Tryd.sizeOf63
 v72 := Tryd.zeroValue63
 t75 := Tryd.underlying68
 a75 := Tryd.isAgg68
 z75 := Tryd.sizeOf68
 v75 := Tryd.zeroValue68
 t164 := Tryd.underlying95
 a164 := Tryd.isAgg95
 z164 := Tryd.sizeOf95
 v164 := Tryd.zeroValue95 }
theorem builderX : Go.Proofs.Builder.Extra Tryd.prog wr_ren := {
 sizeBuilder := by kernel_rfl
 liesBuilder := by kernel_rfl
 t5 := Tryd.underlying5
 a5 := Tryd.isAgg5
 z5 := Tryd.sizeOf5
 v5 := Tryd.zeroValue5
 infoByte := by kernel_rfl
 cellsByte := by kernel_rfl
 sizeByte := by kernel_rfl
 neB5 := by decide }
end Go.Proofs.YtbbjnplellanaaaDoor
