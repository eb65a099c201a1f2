import Derived.Test.YtggemgbkkhpenaaPAllx1
namespace Go.Proofs.Ytggemgbkkhpenaa.Pure
open Go.RowKit Go.Proofs.Ytggemgbkkhpenaa.PAll
theorem CongHears : turnbucklelaw07_CongHears.Pure := by
  unfold turnbucklelaw07_CongHears.Pure turnbucklelaw07_CongHears.f
  intros
  rfl
end Go.Proofs.Ytggemgbkkhpenaa.Pure
