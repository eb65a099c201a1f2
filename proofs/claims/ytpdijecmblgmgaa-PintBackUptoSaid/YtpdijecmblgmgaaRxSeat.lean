/- The machine for walks: what it asks of the program. -/
import Derived.Test.YtpdijecmblgmgaaRxU
import Derived.Test.YtpdijecmblgmgaaProg
namespace Go.Proofs.Ytpdijecmblgmgaa.X
open Go
theorem mixed : Try.prog.follows .mixedOrders = true := by kernel_rfl
end Go.Proofs.Ytpdijecmblgmgaa.X
