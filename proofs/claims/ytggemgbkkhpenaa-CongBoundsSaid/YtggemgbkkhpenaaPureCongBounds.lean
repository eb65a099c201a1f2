import Derived.Test.YtggemgbkkhpenaaPScrx1
namespace Go.Proofs.Ytggemgbkkhpenaa.Pure
open Go Go.RowKit Go.Proofs.Ytggemgbkkhpenaa.PScr
theorem CongBounds : turnbucklelaw07_CongBounds.Pure := by
  unfold turnbucklelaw07_CongBounds.Pure turnbucklelaw07_CongBounds.f
  intro l0 h1 h2 h3
  exact if_pos (by omega)
end Go.Proofs.Ytggemgbkkhpenaa.Pure
