/- What all equations lean on. -/
import Derived.Test.YtldmkhakjnglmaaC4
import Derived.Test.YtldmkhakjnglmaaProg
namespace Go.Proofs.Ytldmkhakjnglmaa
theorem mixed : Try.prog.follows .mixedOrders = true := by kernel_rfl
end Go.Proofs.Ytldmkhakjnglmaa
