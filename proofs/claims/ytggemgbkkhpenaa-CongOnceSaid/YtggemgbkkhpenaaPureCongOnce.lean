import Derived.Test.YtggemgbkkhpenaaPOncx1
namespace Go.Proofs.Ytggemgbkkhpenaa.Pure
open Go Go.RowKit Go.Proofs.Ytggemgbkkhpenaa.POnc
theorem CongOnce : turnbucklelaw07_CongOnce.Pure := by
  unfold turnbucklelaw07_CongOnce.Pure turnbucklelaw07_CongOnce.f
  intro l0 a1 a2 h1 h2
  intros
  exact if_pos (by omega)
end Go.Proofs.Ytggemgbkkhpenaa.Pure
