import Derived.Test.YtkchgcefmnbebaazPNobx1
namespace Go.Proofs.Ytkchgcefmnbebaa.Pure
open Go.RowKit Go.Proofs.Ytkchgcefmnbebaa.PNob Go.Proofs.YtkchgcefmnbebaaW.PrintWords Go.Proofs.YtkchgcefmnbebaaW.PrintLast
theorem SentNobody : turnbucklelaw08_SentNobody.Pure := by
 unfold turnbucklelaw08_SentNobody.Pure turnbucklelaw08_SentNobody.f
 intros
 rfl
end Go.Proofs.Ytkchgcefmnbebaa.Pure
