import Derived.Test.YtnfaneojdfjepaaPAllx2
namespace Go.Proofs.Ytnfaneojdfjepaa.Pure
open Go Go.RowKit Go.Proofs.Ytnfaneojdfjepaa.PAll Go.Proofs.YtnfaneojdfjepaaW.PrintWords Go.Proofs.YtnfaneojdfjepaaW.PrintLast Go.Proofs.YtnfaneojdfjepaaW.PrintMore
theorem SpansTurns : turnbucklelaw05_SpansTurns.Pure := by
  unfold turnbucklelaw05_SpansTurns.Pure turnbucklelaw05_SpansTurns.f
  intros
  first | exact if_pos (by omega) | rfl
end Go.Proofs.Ytnfaneojdfjepaa.Pure
