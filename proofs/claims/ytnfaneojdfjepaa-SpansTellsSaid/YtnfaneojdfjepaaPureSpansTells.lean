import Derived.Test.YtnfaneojdfjepaaPAllx1
namespace Go.Proofs.Ytnfaneojdfjepaa.Pure
open Go Go.RowKit Go.Proofs.Ytnfaneojdfjepaa.PAll Go.Proofs.YtnfaneojdfjepaaW.PrintWords Go.Proofs.YtnfaneojdfjepaaW.PrintLast Go.Proofs.YtnfaneojdfjepaaW.PrintMore
theorem SpansTells : turnbucklelaw05_SpansTells.Pure := by
  unfold turnbucklelaw05_SpansTells.Pure turnbucklelaw05_SpansTells.f
  intros
  first | exact if_pos (by omega) | rfl
end Go.Proofs.Ytnfaneojdfjepaa.Pure
