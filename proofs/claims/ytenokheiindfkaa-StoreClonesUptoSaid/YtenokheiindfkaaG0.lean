/- What all equations lean on. -/
import Derived.Test.YtenokheiindfkaaC4
import Derived.Test.YtenokheiindfkaaProg
namespace Go.Proofs.Ytenokheiindfkaa
theorem mixed : Try.prog.follows .mixedOrders = true := by kernel_rfl
end Go.Proofs.Ytenokheiindfkaa
