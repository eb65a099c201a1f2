/- Nothing is opened under another key. -/
import Derived.Test.YthenkaklhaehbaaTagSeal
import Derived.Test.YthenkaklhaehbaaPAllx18
namespace Go.Proofs.Ythenkaklhaehbaa.Pure
open Go.RowKit Go.Proofs.Ythenkaklhaehbaa.PAll Go.Proofs.YthenkaklhaehbaaW.PrintWords Go.Proofs.YthenkaklhaehbaaW.PrintLast Go.Proofs.YthenkaklhaehbaaW.PrintMore Go.Proofs.Ythenkaklhaehbaa.Plain
set_option linter.unusedVariables false
theorem TagKeys : turnbucklelaw02_TagKeys.Pure := by
  intro key other l h1 h2 hm hb hl
  have r1 := wf_u64 h1
  have r2 := wf_u64 h2
  refine ⟨l.length + 30, ?_⟩
  unfold turnbucklelaw02_TagKeys.f
  rw [seal_f key l (by omega) _ (by omega)]
  simp only [Option.bind_some]
  rw [open_f other _ (by rw [seal_len]; omega) _ (by rw [seal_len]; omega), open_seal, alive_f _ (by omega)]
  simp only [Option.bind_some]
  by_cases e : key = other
  · subst e; simp
  · rw [if_neg (fun x => e (tag_key (by omega) (by omega) l (mark_inj (tag_range _ _) (tag_range _ _) x)).symm)]
    simp [e]
end Go.Proofs.Ythenkaklhaehbaa.Pure
