/- Numbers are put behind any bytes, in a width or in the least, as the reference puts them, or refused as there. -/
import Derived.Test.YtbfpoannmkblhaaVintRef
import Derived.Test.YtbfpoannmkblhaaVintRefGet
import Derived.Test.YtbfpoannmkblhaaPAllx19
namespace Go.Proofs.Ytbfpoannmkblhaa.Pure
open Go.RowKit Go.Proofs.Ytbfpoannmkblhaa.PAll Go.Proofs.YtbfpoannmkblhaaW.PrintWords Go.Proofs.YtbfpoannmkblhaaW.PrintLast Go.Proofs.YtbfpoannmkblhaaW.PrintMore Go.Proofs.Ytbfpoannmkblhaa.Plain
set_option linter.unusedVariables false
theorem puts_alive (k : Nat) (hk : 60 ≤ k) : turnbucklelaw01_alive.f k = some true :=
  at_rounds (fun k => turnbucklelaw01_alive.mono k) hk (by decide +kernel)
theorem VintPuts : turnbucklelaw01_VintPuts.Pure := by
  intro b n w _ hb _ _ _
  refine ⟨100, ?_⟩
  unfold turnbucklelaw01_VintPuts.f
  rw [putwide_f b (by omega) n w 100 (by decide), refputwide_f b (by omega) n w 100 (by decide), put_f b (by omega) n 100 (by decide), refput_f b (by omega) n 100 (by decide), size_f n 100 (by decide), refsize_f n 100 (by decide), puts_alive 100 (by decide)]
  simp [same_refl]
end Go.Proofs.Ytbfpoannmkblhaa.Pure
