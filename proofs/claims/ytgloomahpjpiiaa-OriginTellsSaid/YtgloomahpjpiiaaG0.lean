/- What all equations lean on. -/
import Derived.Test.YtgloomahpjpiiaaC4
import Derived.Test.YtgloomahpjpiiaaProg
namespace Go.Proofs.Ytgloomahpjpiiaa
theorem mixed : Try.prog.follows .mixedOrders = true := by kernel_rfl
end Go.Proofs.Ytgloomahpjpiiaa
