/- All, vint's and the reference's: both as one plain function says; and lists of numbers that are alike. -/
import Derived.Test.YtbfpoannmkblhaaVintBack
import Derived.Test.YtbfpoannmkblhaaVintRefGet
import Derived.Test.YtbfpoannmkblhaaPAllx25
import Derived.Test.YtbfpoannmkblhaaPAllx27
namespace Go.Proofs.Ytbfpoannmkblhaa.Plain
open Go.RowKit Go.Proofs.Ytbfpoannmkblhaa.PAll Go.Proofs.YtbfpoannmkblhaaW.PrintWords Go.Proofs.YtbfpoannmkblhaaW.PrintLast Go.Proofs.YtbfpoannmkblhaaW.PrintMore
set_option linter.unusedVariables false
set_option linter.unusedSimpArgs false

theorem ints_l0 (l : List Int) (hm : l.length ≤ 9223372036854775000) (d : Nat) : ∀ (k : Nat) (i : Int), 0 ≤ i → i ≤ l.length → (l.length : Int) - i = d → d < k → turnbuckleref01_Ints.l0 k l l i = some true := by
  induction d with
  | zero =>
    intro k i h0 h1 hd hk
    obtain ⟨k, rfl⟩ : ∃ m, k = m + 1 := ⟨k - 1, by omega⟩
    rw [turnbuckleref01_Ints.l0, if_neg (by omega)]
  | succ d ih =>
    intro k i h0 h1 hd hk
    obtain ⟨k, rfl⟩ : ∃ m, k = m + 1 := ⟨k - 1, by omega⟩
    rw [turnbuckleref01_Ints.l0, if_pos (by omega), if_pos h0, if_pos (by omega), if_pos rfl, w64 _ (by omega)]
    exact ih k (i + 1) (by omega) (by omega) (by omega) (by omega)
theorem ints_refl (l : List Int) (hm : l.length ≤ 9223372036854775000) (k : Nat) (hk : l.length < k) : turnbuckleref01_Ints.f k l l = some true := by
  unfold turnbuckleref01_Ints.f
  rw [if_pos rfl]
  exact ints_l0 l hm l.length k 0 (by omega) (by omega) (by omega) hk

/-- what Get answers is a number and a place behind, or a fault -/
theorem get_cases (b : List Int) (i : Int) (h0 : 0 ≤ i) (h : i < b.length) : (∃ n j, get b i = (n, j, 0, 0) ∧ i + 1 ≤ j ∧ j ≤ b.length) ∨ ∃ e a, get b i = (0, 0, e, a) ∧ e ≠ 0 := by
  have hw := width_bd (rd b i)
  unfold get
  rw [if_neg (by omega), if_neg (by omega)]
  by_cases c : (b.length : Int) - i < widthOf (rd b i)
  · rw [if_pos c]; exact Or.inr ⟨3, _, rfl, by decide⟩
  · rw [if_neg c]; exact Or.inl ⟨_, _, rfl, by omega, by omega⟩
theorem all_l0 (b : List Int) (hb : Bytes b) (hl : b.length ≤ 17592186044000) (d : Nat) : ∀ (acc : List Int) (i : Int), 0 ≤ i → i ≤ b.length → (b.length : Int) - i ≤ d → (acc.length : Int) ≤ i →
    ∃ r : List Int × Int × Int, (r.1.length : Int) ≤ b.length ∧ ∀ k, d + 50 < k → vint_All.l0 k b acc i = some r := by
  induction d with
  | zero =>
    intro acc i h0 h1 hd ha
    refine ⟨(acc, 0, 0), by simp only; omega, fun k hk => ?_⟩
    obtain ⟨k, rfl⟩ : ∃ m, k = m + 1 := ⟨k - 1, by omega⟩
    rw [vint_All.l0, if_neg (by omega)]
  | succ d ih =>
    intro acc i h0 h1 hd ha
    by_cases c : i < b.length
    · rcases get_cases b i h0 c with ⟨n, j, e, j0, j1⟩ | ⟨e, a, eq, hne⟩
      · obtain ⟨r, hr, h⟩ := ih (acc ++ [n]) j (by omega) j1 (by omega) (by simp; omega)
        refine ⟨r, hr, fun k hk => ?_⟩
        obtain ⟨k, rfl⟩ : ∃ m, k = m + 1 := ⟨k - 1, by omega⟩
        rw [vint_All.l0, if_pos c, get_f b hb (by omega) i (by omega) k (by omega), e]
        simp only [Option.bind_some]
        rw [if_neg (by decide), if_pos (by omega)]
        exact h k (by omega)
      · refine ⟨([], e, a), by simp, fun k hk => ?_⟩
        obtain ⟨k, rfl⟩ : ∃ m, k = m + 1 := ⟨k - 1, by omega⟩
        rw [vint_All.l0, if_pos c, get_f b hb (by omega) i (by omega) k (by omega), eq]
        simp only [Option.bind_some]
        rw [if_pos (by simp [hne])]
    · refine ⟨(acc, 0, 0), by simp only; omega, fun k hk => ?_⟩
      obtain ⟨k, rfl⟩ : ∃ m, k = m + 1 := ⟨k - 1, by omega⟩
      rw [vint_All.l0, if_neg c]
end Go.Proofs.Ytbfpoannmkblhaa.Plain
