/- The number at any place of any bytes, and the place behind it, are the reference's, or the fault. -/
import Derived.Test.YtbfpoannmkblhaaVintRefGet
import Derived.Test.YtbfpoannmkblhaaPAllx21
namespace Go.Proofs.Ytbfpoannmkblhaa.Pure
open Go.RowKit Go.Proofs.Ytbfpoannmkblhaa.PAll Go.Proofs.YtbfpoannmkblhaaW.PrintWords Go.Proofs.YtbfpoannmkblhaaW.PrintLast Go.Proofs.YtbfpoannmkblhaaW.PrintMore Go.Proofs.Ytbfpoannmkblhaa.Plain
set_option linter.unusedVariables false
theorem gets_alive (k : Nat) (hk : 60 ≤ k) : turnbucklelaw01_alive.f k = some true :=
  at_rounds (fun k => turnbucklelaw01_alive.mono k) hk (by decide +kernel)
theorem VintGets : turnbucklelaw01_VintGets.Pure := by
  intro b i _ hb hy hi
  refine ⟨100, ?_⟩
  unfold turnbucklelaw01_VintGets.f
  rw [get_f b (bytes_of hy) (by omega) i (wf_i64 hi) 100 (by decide), refget_f b (bytes_of hy) (by omega) i (wf_i64 hi) 100 (by decide), gets_alive 100 (by decide)]
  simp
end Go.Proofs.Ytbfpoannmkblhaa.Pure
