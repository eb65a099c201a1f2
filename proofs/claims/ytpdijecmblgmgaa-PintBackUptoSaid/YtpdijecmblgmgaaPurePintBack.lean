import Derived.Test.YtpdijecmblgmgaaPBakx1
namespace Go.Proofs.Ytpdijecmblgmgaa.Pure
open Go Go.RowKit Go.Proofs.Ytpdijecmblgmgaa.PBak Go.Proofs.YtpdijecmblgmgaaW.PrintWords Go.Proofs.YtpdijecmblgmgaaW.PrintLast Go.Proofs.YtpdijecmblgmgaaW.PrintMore
theorem PintBack : turnbucklelaw11_PintBack.Pure := by
  unfold turnbucklelaw11_PintBack.Pure turnbucklelaw11_PintBack.f
  intros
  first | exact if_pos (by omega) | exact if_pos ⟨by omega, by omega⟩ | rfl
end Go.Proofs.Ytpdijecmblgmgaa.Pure
