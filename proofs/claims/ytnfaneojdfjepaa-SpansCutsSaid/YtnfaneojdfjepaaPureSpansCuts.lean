import Derived.Test.YtnfaneojdfjepaaPAllx2
namespace Go.Proofs.Ytnfaneojdfjepaa.Pure
open Go Go.RowKit Go.Proofs.Ytnfaneojdfjepaa.PAll Go.Proofs.YtnfaneojdfjepaaW.PrintWords Go.Proofs.YtnfaneojdfjepaaW.PrintLast Go.Proofs.YtnfaneojdfjepaaW.PrintMore
theorem SpansCuts : turnbucklelaw05_SpansCuts.Pure := by
  unfold turnbucklelaw05_SpansCuts.Pure turnbucklelaw05_SpansCuts.f
  intros
  first | exact if_pos (by omega) | rfl
end Go.Proofs.Ytnfaneojdfjepaa.Pure
