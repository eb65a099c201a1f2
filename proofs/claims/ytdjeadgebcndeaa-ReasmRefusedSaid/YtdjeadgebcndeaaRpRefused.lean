/- Reasm: what is refused turns nothing, in plain words. -/
import Derived.Test.YtdjeadgebcndeaaRp6
import Derived.Test.YtdjeadgebcndeaaRlRefused
namespace Go.Proofs.Ytdjeadgebcndeaa.X
open Go Go.Proofs.YtdjeadgebcndeaaW.Rx
set_option linter.unusedVariables false
set_option linter.unusedSimpArgs false
/-- What is refused turns nothing. -/
theorem refused_true (W : Int) (l : List Actt) (hl : Fit l) : law09_ReasmRefused.F (l.length + 6000) W l = some true := by
  obtain ⟨k, hk⟩ : ∃ k, k = l.length + 6000 := ⟨_, rfl⟩
  have hal : law09_alive.F k = some true := by rw [hk, show l.length + 6000 = (l.length + 5980) + 20 by omega]; exact alive_F _
  rw [← hk]
  unfold law09_ReasmRefused.F
  rcases new_F k W with e | ⟨q, e, hq, _⟩
  · simp only [e, Option.bind_some, hal, cond_true, bne_t (show (1 : Int) ≠ 0 by decide)]
  simp only [e, Option.bind_some, hal, cond_true, cond_false, bne_f (show (0 : Int) = 0 from rfl)]
  refine loop_all _ l.length (fun j s => ∃ q, s = ((j : Int), q) ∧ Good W q) ?_ ?_ k 0 _ (Nat.zero_le _) ⟨q, rfl, hq⟩ (by omega)
  · rintro j _ hj ⟨q, rfl, h⟩
    obtain ⟨a, ham, hga, hix⟩ := idx_F l j hj
    have hw := idx_w hj hl.1
    have hH := held_F k h (by omega)
    have hR := ready_F k h
    have hE := end_F k h
    have done : ∀ (e : Int) (q' : Stm), Good W q' → (e ≠ 0 ∧ q' = q) ∨ e = 0 → ∀ T : Option (Sum (Int × Stm) Bool), (e ≠ 0 → q' = q → T = some (.inl (((j + 1 : Nat) : Int), q'))) → (e = 0 → T = some (.inl (((j + 1 : Nat) : Int), q'))) → ∃ s', (∃ q, s' = (((j + 1 : Nat) : Int), q) ∧ Good W q) ∧ T = some (.inl s') := fun e q' hg hc T h1 h2 => by
      refine ⟨_, ⟨q', rfl, hg⟩, ?_⟩
      rcases hc with ⟨h3, h4⟩ | h3
      · exact h1 h3 h4
      · exact h2 h3
    unfold law09_ReasmRefused.s2
    simp only [hix, cond_true, hga, Option.bind_some, hH, hR, hE, hw]
    by_cases k0 : Int.tmod a.1 3 = 0
    · simp only [beq_t k0, cond_true]
      cases hf : a.2.2.2 with
      | true =>
        obtain ⟨e, q', hD, hc, _⟩ := data_F k h (by omega) (n := a.2.1) (b := a.2.2.1) (fin := true) (hl.2 a ham)
        have hg : Good W q' := by rcases hc with ⟨_, rfl⟩ | ⟨_, hh⟩; exact h; exact hh.good
        simp only [hD, Option.bind_some, cond_true, end_F k hg, held_F k hg (by omega), ready_F k hg]
        refine done e q' hg (hc.imp id And.left) _ (fun he hq => ?_) (fun he => ?_)
        · subst hq
          simp only [bne_t he, cond_true, bne_f (rfl : X.held q'.2.2.2.1 = _), bne_f (rfl : readyOf q'.2.1 q'.2.2.2.1 = _), bne_f (rfl : q'.2.2.2.2.1 = _), cond_false]
          cases q'.2.2.2.2.2.1 <;> rfl
        · subst he
          cases q.2.2.2.2.2.1 <;> cases q'.2.2.2.2.2.1 <;> rfl
      | false =>
        obtain ⟨e, q', hD, hc, _⟩ := data_F k h (by omega) (n := a.2.1) (b := a.2.2.1) (fin := false) (hl.2 a ham)
        have hg : Good W q' := by rcases hc with ⟨_, rfl⟩ | ⟨_, hh⟩; exact h; exact hh.good
        simp only [hD, Option.bind_some, cond_false, end_F k hg, held_F k hg (by omega), ready_F k hg]
        refine done e q' hg (hc.imp id And.left) _ (fun he hq => ?_) (fun he => ?_)
        · subst hq
          simp only [bne_t he, cond_true, bne_f (rfl : X.held q'.2.2.2.1 = _), bne_f (rfl : readyOf q'.2.1 q'.2.2.2.1 = _), bne_f (rfl : q'.2.2.2.2.1 = _), cond_false]
          cases q'.2.2.2.2.2.1 <;> rfl
        · subst he
          cases q.2.2.2.2.2.1 <;> cases q'.2.2.2.2.2.1 <;> rfl
    · simp only [beq_f k0, cond_false]
      by_cases k1 : Int.tmod a.1 3 = 1
      · simp only [beq_t k1, cond_true]
        obtain ⟨out, q', hD, hc⟩ := read_F k h (n := a.2.1)
        simp only [hD, Option.bind_some]
        exact ⟨_, ⟨q', rfl, hc.good⟩, by cases q.2.2.2.2.2.1 <;> rfl⟩
      · simp only [beq_f k1, cond_false]
        obtain ⟨e, q', hD, hc⟩ := reset_F k h (n := a.2.1)
        have hg : Good W q' := by rcases hc with ⟨_, rfl⟩ | ⟨_, hh⟩; exact h; exact hh.good
        simp only [hD, Option.bind_some, end_F k hg, held_F k hg (by omega), ready_F k hg]
        refine done e q' hg (hc.imp id And.left) _ (fun he hq => ?_) (fun he => ?_)
        · subst hq
          simp only [bne_t he, cond_true, bne_f (rfl : X.held q'.2.2.2.1 = _), bne_f (rfl : readyOf q'.2.1 q'.2.2.2.1 = _), bne_f (rfl : q'.2.2.2.2.1 = _), cond_false]
          cases q'.2.2.2.2.2.1 <;> rfl
        · subst he
          cases q.2.2.2.2.2.1 <;> cases q'.2.2.2.2.2.1 <;> rfl
  · rintro _ ⟨q, rfl, h⟩
    unfold law09_ReasmRefused.s2
    simp only [idx_e, cond_false]
end Go.Proofs.Ytdjeadgebcndeaa.X
