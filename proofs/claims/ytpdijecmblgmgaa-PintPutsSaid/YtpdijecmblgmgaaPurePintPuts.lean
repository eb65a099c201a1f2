/- Numbers are put behind any bytes as the reference puts them, or refused as there. -/
import Derived.Test.YtpdijecmblgmgaaPintPlain
import Derived.Test.YtpdijecmblgmgaaPAllx12
namespace Go.Proofs.Ytpdijecmblgmgaa.Pure
open Go.RowKit Go.Proofs.Ytpdijecmblgmgaa.PAll Go.Proofs.YtpdijecmblgmgaaW.PrintWords Go.Proofs.YtpdijecmblgmgaaW.PrintLast Go.Proofs.YtpdijecmblgmgaaW.PrintMore Go.Proofs.Ytpdijecmblgmgaa.Plain
set_option linter.unusedVariables false
theorem puts_alive (k : Nat) (hk : 60 ≤ k) : turnbucklelaw11_alive.f k = some true :=
  at_rounds (fun k => turnbucklelaw11_alive.mono k) hk (by decide +kernel)
theorem PintPuts : turnbucklelaw11_PintPuts.Pure := by
  intro b f w n hl hb _ _ _ _
  refine ⟨100, ?_⟩
  unfold turnbucklelaw11_PintPuts.f turnbuckleref01_Same.f
  rw [put_f b (by omega) f w n 100 (by decide), refput_f b (by omega) f w n 100 (by decide), size_f w n 100 (by decide), refsize_f w n 100 (by decide), puts_alive 100 (by decide)]
  simp
end Go.Proofs.Ytpdijecmblgmgaa.Pure
