/- Bytes are not turned, and what was answered may be written over. -/
import Derived.Test.YtbfpoannmkblhaaVintRef
import Derived.Test.YtbfpoannmkblhaaPAllx24
namespace Go.Proofs.Ytbfpoannmkblhaa.Pure
open Go.RowKit Go.Proofs.Ytbfpoannmkblhaa.PAll Go.Proofs.YtbfpoannmkblhaaW.PrintWords Go.Proofs.YtbfpoannmkblhaaW.PrintLast Go.Proofs.YtbfpoannmkblhaaW.PrintMore Go.Proofs.Ytbfpoannmkblhaa.Plain
set_option linter.unusedVariables false
theorem own_alive (k : Nat) (hk : 60 ≤ k) : turnbucklelaw01_alive.f k = some true :=
  at_rounds (fun k => turnbucklelaw01_alive.mono k) hk (by decide +kernel)
theorem VintOwn : turnbucklelaw01_VintOwn.Pure := by
  intro b n _ hb _ _
  refine ⟨100, ?_⟩
  unfold turnbucklelaw01_VintOwn.f
  rw [if_pos (by omega), put_f b (by omega) n 100 (by decide), own_alive 100 (by decide)]
  rfl
end Go.Proofs.Ytbfpoannmkblhaa.Pure
