/- A place, taken modulo a length. -/
import Derived.Test.YthenkaklhaehbaaLists
namespace Go.Proofs.Ythenkaklhaehbaa.Plain
open Go.RowKit Go.Proofs.YthenkaklhaehbaaW.PrintWords Go.Proofs.YthenkaklhaehbaaW.PrintLast Go.Proofs.YthenkaklhaehbaaW.PrintMore
set_option linter.unusedVariables false
/-- a place, taken modulo a length -/
theorem place (a : Int) (n : Nat) (ha : -9223372036854775808 ≤ a ∧ a ≤ 9223372036854775807) (h0 : 0 < n) (h1 : n ≤ 140737488355328) :
    ∃ j : Nat, Int.tmod (wrap64 (Int.tmod a n + n)) n = j ∧ j < n := by
  have h2 : Int.tmod a n < n := Int.tmod_lt_of_pos _ (by omega)
  have h3 : -(n : Int) < Int.tmod a n := Int.lt_tmod_of_pos _ (by omega)
  rw [w64 _ (by omega), Int.tmod_eq_emod_of_nonneg (by omega)]
  have h4 := Int.emod_nonneg (Int.tmod a n + n) (show (n : Int) ≠ 0 by omega)
  have h5 := Int.emod_lt_of_pos (Int.tmod a n + n) (show 0 < (n : Int) by omega)
  exact ⟨((Int.tmod a n + n) % (n : Int)).toNat, by omega, by omega⟩
end Go.Proofs.Ythenkaklhaehbaa.Plain
