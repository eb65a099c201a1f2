/- The waits of any estimate, doubled as often as one likes, are the reference's, or refused as there. -/
import Derived.Test.YtkkamnkjiebghaaPAllx20
import Derived.Test.YtkkamnkjiebghaaRttWait
namespace Go.Proofs.Ytkkamnkjiebghaa.Pure
open Go.RowKit Go.Proofs.Ytkkamnkjiebghaa.PAll Go.Proofs.YtkkamnkjiebghaaW.PrintWords Go.Proofs.YtkkamnkjiebghaaW.PrintLast Go.Proofs.YtkkamnkjiebghaaW.PrintMore Go.Proofs.Ytkkamnkjiebghaa.Plain
set_option linter.unusedVariables false
theorem waits_alive (k : Nat) (hk : 12 ≤ k) : turnbucklelaw06_alive.f k = some true :=
  at_rounds (fun k => turnbucklelaw06_alive.mono k) hk (by decide +kernel)
theorem waits_theirs (h : Bool) (a b c d : Int) : turnbucklelaw06_theirs.f h a b c d = some (h, a, b, c, d) := rfl
theorem loss_eq (h : Bool) (a b c d : Int) : rtt_Loss.f 100 h a b c d = turnbuckleref06_Loss.f h a b c d ∧ ∃ x y, turnbuckleref06_Loss.f h a b c d = some (x, y) := by
  unfold rtt_Loss.f turnbuckleref06_Loss.f
  rw [right_f _ (by decide), refright_f]
  refine ⟨rfl, ?_⟩
  simp only [Option.bind_some]
  split
  · split <;> exact ⟨_, _, rfl⟩
  · exact ⟨_, _, rfl⟩
theorem RttWaits : turnbucklelaw06_RttWaits.Pure := by
  intro h a b c d n _ _ _ _ hn
  refine ⟨100, ?_⟩
  unfold turnbucklelaw06_RttWaits.f
  simp only [waits_theirs, Option.bind_some, waits_alive 100 (by decide)]
  have hp : rtt_Probe.f 100 h a b c d n = turnbuckleref06_Probe.f 100 h a b c d n ∧ ∃ x y, turnbuckleref06_Probe.f 100 h a b c d n = some (x, y) := by
    have r := refprobe 100 (by decide) ⟨h, a, b, c, d⟩ n
    simp only at r
    rw [r]
    by_cases e : ((St.mk h a b c d).ok && decide (0 ≤ n)) = true
    · rw [if_pos e]
      simp only [Bool.and_eq_true, decide_eq_true_eq] at e
      exact ⟨probe_yes 100 (by decide) ⟨h, a, b, c, d⟩ n e.1 e.2, _, _, rfl⟩
    · rw [if_neg e]
      exact ⟨probe_no 100 (by decide) ⟨h, a, b, c, d⟩ n (by simpa using e), _, _, rfl⟩
  obtain ⟨e1, x, y, e2⟩ := hp
  obtain ⟨e3, u, v, e4⟩ := loss_eq h a b c d
  rw [e1, e2, e3, e4]
  simp
end Go.Proofs.Ytkkamnkjiebghaa.Pure
