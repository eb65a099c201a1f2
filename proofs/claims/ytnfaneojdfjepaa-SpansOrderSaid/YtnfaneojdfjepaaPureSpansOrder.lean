import Derived.Test.YtnfaneojdfjepaaPOrdx1
namespace Go.Proofs.Ytnfaneojdfjepaa.Pure
open Go Go.RowKit Go.Proofs.Ytnfaneojdfjepaa.POrd Go.Proofs.YtnfaneojdfjepaaW.PrintWords Go.Proofs.YtnfaneojdfjepaaW.PrintLast Go.Proofs.YtnfaneojdfjepaaW.PrintMore
theorem SpansOrder : turnbucklelaw05_SpansOrder.Pure := by
  unfold turnbucklelaw05_SpansOrder.Pure turnbucklelaw05_SpansOrder.f
  intros
  first | exact if_pos (by omega) | exact if_pos ⟨by omega, by omega⟩ | rfl
end Go.Proofs.Ytnfaneojdfjepaa.Pure
