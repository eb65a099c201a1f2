/- The tag of any bytes under any key is the reference's. -/
import Derived.Test.YthenkaklhaehbaaTagPlain
import Derived.Test.YthenkaklhaehbaaPAllx4
namespace Go.Proofs.Ythenkaklhaehbaa.Pure
open Go.RowKit Go.Proofs.Ythenkaklhaehbaa.PAll Go.Proofs.YthenkaklhaehbaaW.PrintWords Go.Proofs.YthenkaklhaehbaaW.PrintLast Go.Proofs.YthenkaklhaehbaaW.PrintMore Go.Proofs.Ythenkaklhaehbaa.Plain
set_option linter.unusedVariables false
theorem TagOf : turnbucklelaw02_TagOf.Pure := by
  intro key l _ hm _ _
  refine ⟨l.length + 2, ?_⟩
  unfold turnbucklelaw02_TagOf.f
  rw [of_f key l hm _ (Nat.le_refl _), refof_f key l hm _ (Nat.le_refl _), alive_f _ (by omega)]
  simp
end Go.Proofs.Ythenkaklhaehbaa.Pure
