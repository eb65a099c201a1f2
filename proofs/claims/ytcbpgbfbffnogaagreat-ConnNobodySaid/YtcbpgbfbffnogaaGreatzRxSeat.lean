import Derived.Test.YtcbpgbfbffnogaaGreatzRxU
import Derived.Test.YtcbpgbfbffnogaaGreatProg
namespace Go.Proofs.YtcbpgbfbffnogaaGreat.X
open Go
theorem mixed : Tryz.prog.follows .mixedOrders = true := by kernel_rfl
theorem bse {α β : Type} {o : Option α} {f : α → Option β} {b : β} (h : o.bind f = some b) : ∃ a, o = some a ∧ f a = some b := Option.bind_eq_some_iff.1 h
end Go.Proofs.YtcbpgbfbffnogaaGreat.X
