/- The machine for walks: what it asks of the program. -/
import Derived.Test.YtggemgbkkhpenaaRx15
import Derived.Test.YtggemgbkkhpenaaProg
namespace Go.Proofs.Ytggemgbkkhpenaa.X
open Go
theorem mixed : Try.prog.follows .mixedOrders = true := by kernel_rfl
end Go.Proofs.Ytggemgbkkhpenaa.X
