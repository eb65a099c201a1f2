import Derived.Test.YtcbpgbfbffnogaaGreatzPNobx3
namespace Go.Proofs.YtcbpgbfbffnogaaGreat.Pure
open Go.RowKit Go.Proofs.YtcbpgbfbffnogaaGreat.PNob Go.Proofs.YtcbpgbfbffnogaaGreatW.PrintWords Go.Proofs.YtcbpgbfbffnogaaGreatW.PrintLast
theorem ConnNobody : turnbucklelaw10_ConnNobody.Pure := by
 unfold turnbucklelaw10_ConnNobody.Pure turnbucklelaw10_ConnNobody.f
 intros
 rfl
end Go.Proofs.YtcbpgbfbffnogaaGreat.Pure
