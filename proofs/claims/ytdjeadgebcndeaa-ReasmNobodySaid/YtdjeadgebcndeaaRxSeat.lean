/- The machine for walks: what it asks of the program. -/
import Derived.Test.YtdjeadgebcndeaaRxU
import Derived.Test.YtdjeadgebcndeaaProg
namespace Go.Proofs.Ytdjeadgebcndeaa.X
open Go
theorem mixed : Try.prog.follows .mixedOrders = true := by kernel_rfl
end Go.Proofs.Ytdjeadgebcndeaa.X
