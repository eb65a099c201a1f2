/- Reasm: in plain words: loops over a script; alive. -/
import Derived.Test.YtdjeadgebcndeaaRp5
namespace Go.Proofs.Ytdjeadgebcndeaa.X
open Go Go.Proofs.YtdjeadgebcndeaaW.Rx
set_option linter.unusedVariables false
set_option linter.unusedSimpArgs false
theorem loop_all {σ : Type} (f : σ → Option (Sum σ Bool)) (n : Nat) (I : Nat → σ → Prop) (hs : ∀ j s, j < n → I j s → ∃ s', I (j + 1) s' ∧ f s = some (.inl s')) (he : ∀ s, I n s → f s = some (.inr true)) : ∀ (k j : Nat) (s : σ), j ≤ n → I j s → n - j < k → iter f k s = some true := by
  intro k
  induction k with
  | zero => intro j s _ _ h; omega
  | succ k ih =>
    intro j s hj hI hk
    rcases Nat.lt_or_ge j n with h | h
    · obtain ⟨s', h1, h2⟩ := hs j s h hI
      rw [iter_l h2]
      exact ih (j + 1) s' h h1 (by omega)
    · obtain rfl : j = n := by omega
      exact iter_r (he s hI)
theorem alive_F (m : Nat) : law09_alive.F (m + 20) = some true := by kernel_rfl
/-- A stream that is new. -/
theorem new_F (k : Nat) (W : Int) : (reasm_New.F k W = some (none, 1)) ∨ (∃ q : Stm, reasm_New.F k W = some (some q, 0) ∧ Good W q ∧ q = (W, 0, List.replicate W.toNat 0, [], 0, false, false) ∧ 1 ≤ W ∧ W ≤ 4096) := by
  unfold reasm_New.F
  by_cases h1 : W < 1
  · left; rw [decide_eq_true h1]; rfl
  by_cases h2 : 4096 < W
  · left; rw [decide_eq_false h1, decide_eq_true h2]; rfl
  rw [decide_eq_false h1, decide_eq_false h2]
  exact Or.inr ⟨_, rfl, ⟨rfl, by omega, by omega, Int.le_refl _, (by show (0 : Int) ≤ 4611686018427387903; decide), by dsimp only; rw [List.length_replicate]; omega, Rt.nil _, fun x hx => (by cases hx), fun h => (by cases h), fun h => (by cases h)⟩, rfl, by omega, by omega⟩
abbrev Actt := Int × Int × List Int × Bool
/-- Lengths that may be. -/
def Fit (l : List Actt) : Prop := l.length ≤ 4611686018427387904 ∧ ∀ a ∈ l, a.2.2.1.length ≤ 9223372036854775807
section
variable {W : Int} {q : Stm} (k : Nat)
theorem idx_F {α : Type} (l : List α) (j : Nat) (hj : j < l.length) : ∃ a, a ∈ l ∧ getI l (j : Int) = some a ∧ decide ((j : Int) < ((l.length : Nat) : Int)) = true := by
  refine ⟨l[j], List.getElem_mem hj, by rw [getI_nat]; exact List.getElem?_eq_getElem hj, decide_eq_true (by omega)⟩
theorem idx_w {j n : Nat} (hj : j < n) (hn : n ≤ 4611686018427387904) : IntKind.wrap IntKind.i64 ((j : Int) + 1) = ((j + 1 : Nat) : Int) := by rw [wrap_in _ (by omega) (by omega)]; rfl
theorem idx_e {α : Type} (l : List α) : decide (((l.length : Nat) : Int) < ((l.length : Nat) : Int)) = false := decide_eq_false (by omega)
end
end Go.Proofs.Ytdjeadgebcndeaa.X
