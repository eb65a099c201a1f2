/- What is got is put in no more bytes. -/
import Derived.Test.YtpdijecmblgmgaaPintGet
import Derived.Test.YtpdijecmblgmgaaPAllx14
namespace Go.Proofs.Ytpdijecmblgmgaa.Pure
open Go.RowKit Go.Proofs.Ytpdijecmblgmgaa.PAll Go.Proofs.YtpdijecmblgmgaaW.PrintWords Go.Proofs.YtpdijecmblgmgaaW.PrintLast Go.Proofs.YtpdijecmblgmgaaW.PrintMore Go.Proofs.Ytpdijecmblgmgaa.Plain
set_option linter.unusedVariables false
theorem few_alive (k : Nat) (hk : 60 ≤ k) : turnbucklelaw11_alive.f k = some true :=
  at_rounds (fun k => turnbucklelaw11_alive.mono k) hk (by decide +kernel)
theorem PintFew : turnbucklelaw11_PintFew.Pure := by
  intro b at0 w hl hb hw _ _
  refine ⟨100, ?_⟩
  unfold turnbucklelaw11_PintFew.f
  obtain ⟨r, hr, hg⟩ := get_f b (bytes_of hw) (by omega) at0 w 100 (by decide)
  rw [hr]
  simp only [Option.bind_some]
  rw [few_alive 100 (by decide)]
  simp only [Option.bind_some]
  by_cases e : r.2.2.2.1 = 0 ∧ r.2.2.2.2 = 0
  · obtain ⟨w0, w8, a0, a1, f0, f1, fm, n0, n1, hc⟩ := hg e
    rw [if_neg (by simp [e.1, e.2]), put_f [] (by simp) r.1 w r.2.1 100 (by decide)]
    simp only [Option.bind_some]
    have nb : ¬ Bad r.1 w r.2.1 := by unfold Bad; omega
    unfold pput
    rw [if_neg nb]
    rcases hc with ⟨h1, h2⟩ | ⟨h1, j, hj, h2, h3⟩
    · rw [if_pos h1, h2]
      simp only [List.nil_append, List.length_cons, List.length_nil]
      rw [if_pos trivial, w64 _ (by omega), if_pos (by omega), if_pos (by omega)]
    · rw [if_neg (show ¬ r.2.1 < Full w from by omega), h2]
      have := tl_few 8 j _ h3
      simp only [List.nil_append, List.length_cons]
      rw [if_pos trivial, w64 _ (by omega), if_pos (by omega), if_pos (by omega)]
  · rw [if_pos (by simp only [Bool.or_eq_true, Bool.not_eq_true', beq_eq_false_iff_ne]; omega)]
end Go.Proofs.Ytpdijecmblgmgaa.Pure
