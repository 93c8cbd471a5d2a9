/- What all equations lean on. -/
import Derived.Test.YtbbjnplellanaaaDoorC4
import Derived.Test.YtbbjnplellanaaaDoorProg
namespace Go.Proofs.YtbbjnplellanaaaDoor
theorem mixed : Tryd.prog.follows .mixedOrders = true := by kernel_rfl
end Go.Proofs.YtbbjnplellanaaaDoor
