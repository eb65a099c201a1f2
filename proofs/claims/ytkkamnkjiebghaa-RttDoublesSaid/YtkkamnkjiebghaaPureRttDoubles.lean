/- Waits do not fall when doubled once more, at most double, and are at most 2^20; refused alike else. -/
import Derived.Test.YtkkamnkjiebghaaPAllx16
import Derived.Test.YtkkamnkjiebghaaRttWait
namespace Go.Proofs.Ytkkamnkjiebghaa.Pure
open Go.RowKit Go.Proofs.Ytkkamnkjiebghaa.PAll Go.Proofs.YtkkamnkjiebghaaW.PrintWords Go.Proofs.YtkkamnkjiebghaaW.PrintLast Go.Proofs.YtkkamnkjiebghaaW.PrintMore Go.Proofs.Ytkkamnkjiebghaa.Plain
set_option linter.unusedVariables false
theorem doubles_alive (k : Nat) (hk : 12 ≤ k) : turnbucklelaw06_alive.f k = some true :=
  at_rounds (fun k => turnbucklelaw06_alive.mono k) hk (by decide +kernel)
theorem theirs_f (h : Bool) (a b c d : Int) : turnbucklelaw06_theirs.f h a b c d = some (h, a, b, c, d) := rfl
theorem wait_step (m d : Int) (hm : 1 ≤ m) (hd : 0 ≤ d) : 1 ≤ wait m d ∧ wait m d ≤ wait m (d + 1) ∧ wait m (d + 1) ≤ 1048576 ∧ wait m (d + 1) ≤ 2 * wait m d := by
  rw [← wait_eq m d hm hd, ← wait_eq m (d + 1) hm (by omega)]
  rw [show (d + 1).toNat = d.toNat + 1 from by omega, Int.pow_succ, ← Int.mul_assoc]
  have hp : (1 : Int) ≤ 2 ^ d.toNat := one_le_pow2 _
  have hq : m * 1 ≤ m * 2 ^ d.toNat := Int.mul_le_mul_of_nonneg_left hp (by omega)
  generalize m * 2 ^ d.toNat = x at *
  unfold mn
  split <;> split <;> omega
theorem RttDoubles : turnbucklelaw06_RttDoubles.Pure := by
  intro h a b c d n _ _ _ _ hn
  have hb := wf_u8 hn
  refine ⟨100, ?_⟩
  unfold turnbucklelaw06_RttDoubles.f
  simp only [theirs_f, Option.bind_some, w64 n (by omega), w64 (n + 1) (by omega), doubles_alive 100 (by decide)]
  by_cases e : (St.mk h a b c d).ok = true
  · have p1 := probe_yes 100 (by decide) ⟨h, a, b, c, d⟩ n e (by omega)
    have p2 := probe_yes 100 (by decide) ⟨h, a, b, c, d⟩ (n + 1) e (by omega)
    simp only at p1 p2
    rw [p1, p2]
    have hs := wait_step (base ⟨h, a, b, c, d⟩) n (base_bd e).1 (by omega)
    simp only [Option.bind_some, if_true]
    rw [if_pos (by omega), if_pos (by omega), if_pos (by omega), w64 _ (by omega), if_pos (by omega)]
  · have e' : (St.mk h a b c d).ok = false := by simpa using e
    have p1 := probe_no 100 (by decide) ⟨h, a, b, c, d⟩ n (by rw [e']; rfl)
    have p2 := probe_no 100 (by decide) ⟨h, a, b, c, d⟩ (n + 1) (by rw [e']; rfl)
    simp only at p1 p2
    rw [p1, p2]
    simp
end Go.Proofs.Ytkkamnkjiebghaa.Pure
