import Derived.Test.YtnfaneojdfjepaaPTwox2
namespace Go.Proofs.Ytnfaneojdfjepaa.Pure
open Go Go.RowKit Go.Proofs.Ytnfaneojdfjepaa.PTwo Go.Proofs.YtnfaneojdfjepaaW.PrintWords Go.Proofs.YtnfaneojdfjepaaW.PrintLast Go.Proofs.YtnfaneojdfjepaaW.PrintMore
theorem SpansTwice : turnbucklelaw05_SpansTwice.Pure := by
  unfold turnbucklelaw05_SpansTwice.Pure turnbucklelaw05_SpansTwice.f
  intros
  first | exact if_pos (by omega) | rfl
end Go.Proofs.Ytnfaneojdfjepaa.Pure
