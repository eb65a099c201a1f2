/- Bytes are not turned, and what was answered may be written over. -/
import Derived.Test.YtpdijecmblgmgaaPintPlain
import Derived.Test.YtpdijecmblgmgaaPAllx16
namespace Go.Proofs.Ytpdijecmblgmgaa.Pure
open Go.RowKit Go.Proofs.Ytpdijecmblgmgaa.PAll Go.Proofs.YtpdijecmblgmgaaW.PrintWords Go.Proofs.YtpdijecmblgmgaaW.PrintLast Go.Proofs.YtpdijecmblgmgaaW.PrintMore Go.Proofs.Ytpdijecmblgmgaa.Plain
set_option linter.unusedVariables false
theorem own_alive (k : Nat) (hk : 60 ≤ k) : turnbucklelaw11_alive.f k = some true :=
  at_rounds (fun k => turnbucklelaw11_alive.mono k) hk (by decide +kernel)
theorem PintOwn : turnbucklelaw11_PintOwn.Pure := by
  intro b f w n hl hb _ _ _ _
  refine ⟨100, ?_⟩
  unfold turnbucklelaw11_PintOwn.f
  rw [if_pos (by omega), put_f b (by omega) f w n 100 (by decide), own_alive 100 (by decide)]
  rfl
end Go.Proofs.Ytpdijecmblgmgaa.Pure
