/- What is sealed and what is opened is the reference's. -/
import Derived.Test.YthenkaklhaehbaaTagSeal
import Derived.Test.YthenkaklhaehbaaPAllx15
namespace Go.Proofs.Ythenkaklhaehbaa.Pure
open Go.RowKit Go.Proofs.Ythenkaklhaehbaa.PAll Go.Proofs.YthenkaklhaehbaaW.PrintWords Go.Proofs.YthenkaklhaehbaaW.PrintLast Go.Proofs.YthenkaklhaehbaaW.PrintMore Go.Proofs.Ythenkaklhaehbaa.Plain
set_option linter.unusedVariables false
theorem TagOpens : turnbucklelaw02_TagOpens.Pure := by
  intro key l _ hm hb hl
  refine ⟨l.length + 20, ?_⟩
  unfold turnbucklelaw02_TagOpens.f turnbuckleref01_Same.f
  rw [open_f key l (by omega) _ (by omega), refopen_f key l (bytes_of hl) (by omega) _ (by omega), seal_f key l (by omega) _ (by omega), refseal_f key l (by omega) _ (by omega), alive_f _ (by omega)]
  simp
end Go.Proofs.Ythenkaklhaehbaa.Pure
