import Derived.Test.YtnfaneojdfjepaaPTwox1
namespace Go.Proofs.Ytnfaneojdfjepaa.Pure
open Go Go.RowKit Go.Proofs.Ytnfaneojdfjepaa.PTwo Go.Proofs.YtnfaneojdfjepaaW.PrintWords Go.Proofs.YtnfaneojdfjepaaW.PrintLast Go.Proofs.YtnfaneojdfjepaaW.PrintMore
theorem SpansIn : turnbucklelaw05_SpansIn.Pure := by
  unfold turnbucklelaw05_SpansIn.Pure turnbucklelaw05_SpansIn.f
  intros
  first | exact if_pos (by omega) | rfl
end Go.Proofs.Ytnfaneojdfjepaa.Pure
