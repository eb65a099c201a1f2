import Derived.Test.YtggemgbkkhpenaaPAllx1
namespace Go.Proofs.Ytggemgbkkhpenaa.Pure
open Go.RowKit Go.Proofs.Ytggemgbkkhpenaa.PAll
theorem CongTells : turnbucklelaw07_CongTells.Pure := by
  unfold turnbucklelaw07_CongTells.Pure turnbucklelaw07_CongTells.f
  intros
  rfl
end Go.Proofs.Ytggemgbkkhpenaa.Pure
