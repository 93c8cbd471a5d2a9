/- What all equations lean on. -/
import Derived.Test.YtenokheiindfkabC4
import Derived.Test.YtenokheiindfkabProg
namespace Go.Proofs.Ytenokheiindfkab
theorem mixed : Try.prog.follows .mixedOrders = true := by kernel_rfl
end Go.Proofs.Ytenokheiindfkab
