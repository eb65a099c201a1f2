/- What was sealed is opened. -/
import Derived.Test.YthenkaklhaehbaaTagSeal
import Derived.Test.YthenkaklhaehbaaPAllx16
namespace Go.Proofs.Ythenkaklhaehbaa.Pure
open Go.RowKit Go.Proofs.Ythenkaklhaehbaa.PAll Go.Proofs.YthenkaklhaehbaaW.PrintWords Go.Proofs.YthenkaklhaehbaaW.PrintLast Go.Proofs.YthenkaklhaehbaaW.PrintMore Go.Proofs.Ythenkaklhaehbaa.Plain
set_option linter.unusedVariables false
theorem TagBack : turnbucklelaw02_TagBack.Pure := by
  intro key l _ hm hb hl
  refine ⟨l.length + 30, ?_⟩
  unfold turnbucklelaw02_TagBack.f turnbuckleref01_Same.f
  rw [seal_f key l (by omega) _ (by omega)]
  simp only [Option.bind_some]
  rw [open_f key _ (by rw [seal_len]; omega) _ (by rw [seal_len]; omega), open_seal, alive_f _ (by omega)]
  simp
end Go.Proofs.Ythenkaklhaehbaa.Pure
