import Derived.Test.YtnfaneojdfjepaaPOwnx1
namespace Go.Proofs.Ytnfaneojdfjepaa.Pure
open Go Go.RowKit Go.Proofs.Ytnfaneojdfjepaa.POwn Go.Proofs.YtnfaneojdfjepaaW.PrintWords Go.Proofs.YtnfaneojdfjepaaW.PrintLast Go.Proofs.YtnfaneojdfjepaaW.PrintMore
theorem SpansOwn : turnbucklelaw05_SpansOwn.Pure := by
  unfold turnbucklelaw05_SpansOwn.Pure turnbucklelaw05_SpansOwn.f
  intros
  first | exact if_pos (by omega) | exact if_pos ⟨by omega, by omega⟩ | rfl
end Go.Proofs.Ytnfaneojdfjepaa.Pure
