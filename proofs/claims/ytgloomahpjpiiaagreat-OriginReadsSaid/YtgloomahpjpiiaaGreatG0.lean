/- What all equations lean on. -/
import Derived.Test.YtgloomahpjpiiaaGreatC4
import Derived.Test.YtgloomahpjpiiaaGreatProg
namespace Go.Proofs.YtgloomahpjpiiaaGreat
theorem mixed : Tryz.prog.follows .mixedOrders = true := by kernel_rfl
end Go.Proofs.YtgloomahpjpiiaaGreat
