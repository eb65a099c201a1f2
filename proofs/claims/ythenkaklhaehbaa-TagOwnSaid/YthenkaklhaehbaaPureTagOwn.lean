/- Bytes are not turned, and what was answered may be written over. -/
import Derived.Test.YthenkaklhaehbaaTagSeal
import Derived.Test.YthenkaklhaehbaaPAllx19
namespace Go.Proofs.Ythenkaklhaehbaa.Pure
open Go.RowKit Go.Proofs.Ythenkaklhaehbaa.PAll Go.Proofs.YthenkaklhaehbaaW.PrintWords Go.Proofs.YthenkaklhaehbaaW.PrintLast Go.Proofs.YthenkaklhaehbaaW.PrintMore Go.Proofs.Ythenkaklhaehbaa.Plain
set_option linter.unusedVariables false
theorem TagOwn : turnbucklelaw02_TagOwn.Pure := by
  intro key l _ hm hb hl
  refine ⟨l.length + 30, ?_⟩
  unfold turnbucklelaw02_TagOwn.f
  rw [if_pos (by omega), seal_f key l (by omega) _ (by omega)]
  simp only [Option.bind_some]
  rw [open_f key _ (by rw [seal_len]; omega) _ (by rw [seal_len]; omega)]
  simp only [Option.bind_some]
  exact alive_f _ (by omega)
end Go.Proofs.Ythenkaklhaehbaa.Pure
