/- The machine for walks: what it asks of the program. -/
import Derived.Test.YtnfaneojdfjepaaRxU
import Derived.Test.YtnfaneojdfjepaaProg
namespace Go.Proofs.Ytnfaneojdfjepaa.X
open Go
theorem mixed : Try.prog.follows .mixedOrders = true := by kernel_rfl
end Go.Proofs.Ytnfaneojdfjepaa.X
