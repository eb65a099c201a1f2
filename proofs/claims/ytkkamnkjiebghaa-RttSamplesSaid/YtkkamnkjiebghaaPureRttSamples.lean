/- An estimate after a sample is the reference's, and so is whether one is right. -/
import Derived.Test.YtkkamnkjiebghaaRttPlain
import Derived.Test.YtkkamnkjiebghaaPAllx11
import Derived.Test.YtkkamnkjiebghaaPAllx8
import Derived.Test.YtkkamnkjiebghaaPAllx7
namespace Go.Proofs.Ytkkamnkjiebghaa.Pure
open Go.RowKit Go.Proofs.Ytkkamnkjiebghaa.PAll Go.Proofs.YtkkamnkjiebghaaW.PrintWords Go.Proofs.YtkkamnkjiebghaaW.PrintLast Go.Proofs.YtkkamnkjiebghaaW.PrintMore Go.Proofs.Ytkkamnkjiebghaa.Plain
set_option linter.unusedVariables false
set_option linter.unusedSimpArgs false
theorem refright_f (h : Bool) (a b c d : Int) : turnbuckleref06_Right.f h a b c d = some (rgt h a b c d) := by
  unfold turnbuckleref06_Right.f rgt
  rw [tick_f, tick_f, tick_f, tick_f]
  cases h
  · simp
  · simp only [if_true, Option.bind_some]
    cases tk a <;> cases tk b <;> cases tk c <;> cases tk d <;> simp
theorem refsample_no (s : St) (x dl : Int) (h : (s.ok && (tk x && tk dl)) = false) : turnbuckleref06_Sample.f s.h s.a s.b s.c s.d x dl = some (false, 0, 0, 0, 0, 1) := by
  unfold turnbuckleref06_Sample.f turnbuckleref06_Sample.go
  rw [refright_f, tick_f, tick_f]
  simp only [Option.bind_some]
  have e : (rgt s.h s.a s.b s.c s.d && tk x && tk dl) = false := by rw [Bool.and_assoc]; exact h
  rw [if_pos e]
theorem refsample_yes (s : St) (x dl : Int) (h : s.ok = true) (hx : tk x = true) (hd : tk dl = true) :
    turnbuckleref06_Sample.f s.h s.a s.b s.c s.d x dl = some ((smp s x dl).h, (smp s x dl).a, (smp s x dl).b, (smp s x dl).c, (smp s x dl).d, 0) := by
  unfold turnbuckleref06_Sample.f turnbuckleref06_Sample.go
  rw [refright_f, tick_f, tick_f, hx, hd]
  simp only [Option.bind_some, Bool.and_true]
  rw [if_neg (by show ¬ s.ok = false; rw [h]; decide)]
  have x0 := (tk_iff x).mp hx
  have d0 := (tk_iff dl).mp hd
  by_cases hh : s.h = true
  · rw [if_neg (by rw [hh]; decide), smp_t hh]
    obtain ⟨b1, b2, b3, b4, b5, b6, b7, b8, b9⟩ := ok_true h hh
    unfold turnbuckleref06_Sample.out
    have m1 := mn_le dl 25
    have m2 := mn_le s.a x
    have hc : (if wrap64 (x - mn dl 25) < mn s.a x then x else wrap64 (x - mn dl 25)) = cnt s x dl := by
      unfold cnt
      rw [w64 (x - mn dl 25) (by omega)]
      by_cases q : x - mn dl 25 < mn s.a x
      · rw [if_pos q, if_neg (by omega)]
      · rw [if_neg q, if_pos (by omega)]
    have cb := cnt_bd s x dl hx hd
    simp only [hc]
    generalize cnt s x dl = y at cb ⊢
    rw [w64 (s.b - y) (by omega), w64 (-(s.b - y)) (by omega), w64 (7 * s.b) (by omega), w64 (7 * s.b + y) (by omega), w64 (3 * s.c) (by omega), Int.tdiv_eq_ediv_of_nonneg (by omega), w64 ((7 * s.b + y) / 8) (by omega)]
    have e : (if s.b - y < 0 then -(s.b - y) else s.b - y) = mx (s.b - y) (y - s.b) := by unfold mx; split <;> split <;> omega
    have m3 := mx_le (s.b - y) (y - s.b)
    rw [e, w64 (3 * s.c + _) (by omega), Int.tdiv_eq_ediv_of_nonneg (by omega), w64 _ (by omega), Int.mul_comm 7, Int.mul_comm 3]
  · have hf : s.h = false := by simpa using hh
    rw [if_pos hf]
    unfold smp
    rw [if_neg hh, Int.tdiv_eq_ediv_of_nonneg (by omega), w64 _ (by omega)]
theorem samples_alive (k : Nat) (hk : 60 ≤ k) : turnbucklelaw06_alive.f k = some true :=
  at_rounds (fun k => turnbucklelaw06_alive.mono k) hk (by decide +kernel)
theorem RttSamples : turnbucklelaw06_RttSamples.Pure := by
  intro h a b c d x dl _ _ _ _ _ _
  refine ⟨100, ?_⟩
  unfold turnbucklelaw06_RttSamples.f turnbucklelaw06_theirs.f turnbucklelaw06_ours.f
  simp only [Option.bind_some]
  rw [right_f 100 (by decide), refright_f, samples_alive 100 (by decide)]
  by_cases q : (St.ok ⟨h, a, b, c, d⟩ && (tk x && tk dl)) = false
  · have e1 := sample_no 100 (by decide) ⟨h, a, b, c, d⟩ x dl q
    have e2 := refsample_no ⟨h, a, b, c, d⟩ x dl q
    simp only at e1 e2
    rw [e1, e2]
    simp
  · have q' : (St.ok ⟨h, a, b, c, d⟩ && (tk x && tk dl)) = true := by simpa using q
    simp only [Bool.and_eq_true] at q'
    have e1 := sample_yes 100 (by decide) ⟨h, a, b, c, d⟩ x dl q'.1 q'.2.1 q'.2.2
    have e2 := refsample_yes ⟨h, a, b, c, d⟩ x dl q'.1 q'.2.1 q'.2.2
    simp only at e1 e2
    rw [e1, e2]
    simp
end Go.Proofs.Ytkkamnkjiebghaa.Pure
