import Derived.Test.YtggemgbkkhpenaaPAllx1
namespace Go.Proofs.Ytggemgbkkhpenaa.Pure
open Go.RowKit Go.Proofs.Ytggemgbkkhpenaa.PAll
theorem CongSends : turnbucklelaw07_CongSends.Pure := by
  unfold turnbucklelaw07_CongSends.Pure turnbucklelaw07_CongSends.f
  intros
  rfl
end Go.Proofs.Ytggemgbkkhpenaa.Pure
