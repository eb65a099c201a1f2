import Derived.Test.YtdjeadgebcndeaazRxU
import Derived.Test.YtdjeadgebcndeaaProg
namespace Go.Proofs.Ytdjeadgebcndeaa.X
open Go
theorem mixed : Try.prog.follows .mixedOrders = true := by kernel_rfl
end Go.Proofs.Ytdjeadgebcndeaa.X
