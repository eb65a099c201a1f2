/- slices.Concat of byte slices, in plain words. -/
import Derived.Test.YthenkaklhaehbaaLists
import Derived.Test.YthenkaklhaehbaaPAllx13
namespace Go.Proofs.Ythenkaklhaehbaa.Plain
open Go.RowKit Go.Proofs.Ythenkaklhaehbaa.PAll Go.Proofs.YthenkaklhaehbaaW.PrintWords Go.Proofs.YthenkaklhaehbaaW.PrintLast Go.Proofs.YthenkaklhaehbaaW.PrintMore
set_option linter.unusedVariables false
set_option linter.unusedSimpArgs false
/-- how many elements lists have together -/
def total (ls : List (List Int)) : Nat := ls.flatten.length
theorem concat_l1 (ls : List (List Int)) (hn : ls.length ≤ 1000000000) (d : Nat) : ∀ (k : Nat) (acc : List Int) (i : Int), 0 ≤ i → i ≤ ls.length → (ls.length : Int) - i = d → d < k → acc.length + (ls.drop i.toNat).flatten.length < 140737488355328 →
    slices_Concat_byte_byte.l1 k acc ls ls.length i = some (acc ++ (ls.drop i.toNat).flatten) := by
  induction d with
  | zero =>
    intro k acc i h0 h1 hd hk ht
    obtain ⟨k, rfl⟩ : ∃ m, k = m + 1 := ⟨k - 1, by omega⟩
    simp only [slices_Concat_byte_byte.l1]
    rw [if_neg (by omega), show i.toNat = ls.length from by omega, List.drop_length]; simp
  | succ d ih =>
    intro k acc i h0 h1 hd hk ht
    obtain ⟨k, rfl⟩ : ∃ m, k = m + 1 := ⟨k - 1, by omega⟩
    have hi : i.toNat < ls.length := by omega
    have e : ls.drop i.toNat = rd_L1 ls i :: ls.drop (i + 1).toNat := by
      rw [show (i + 1).toNat = i.toNat + 1 from by omega, List.drop_eq_getElem_cons hi]
      simp [rd_L1, hi]
    rw [e, List.flatten_cons, List.length_append] at ht
    simp only [slices_Concat_byte_byte.l1]
    rw [if_pos (by omega), if_pos h0, if_pos (by omega), if_pos (by omega), w64 _ (by omega), ih k _ (i + 1) (by omega) (by omega) (by omega) (by omega) (by rw [List.length_append]; omega), e]
    simp
theorem concat_l0 (ls : List (List Int)) (hn : ls.length ≤ 1000000000) (ht : total ls < 140737488355328) (d : Nat) : ∀ (k : Nat) (n i : Int), 0 ≤ i → i ≤ ls.length → (ls.length : Int) - i = d → d + ls.length + 1 < k → n + (ls.drop i.toNat).flatten.length = total ls → 0 ≤ n →
    slices_Concat_byte_byte.l0 k ls n ls ls.length i = some ls.flatten := by
  induction d with
  | zero =>
    intro k n i h0 h1 hd hk hs hn0
    obtain ⟨k, rfl⟩ : ∃ m, k = m + 1 := ⟨k - 1, by omega⟩
    simp only [slices_Concat_byte_byte.l0]
    rw [show i.toNat = ls.length from by omega, List.drop_length] at hs
    simp only [List.flatten_nil, List.length_nil] at hs
    rw [if_neg (by omega)]
    unfold slices_Grow_byte_byte.f
    rw [if_pos hn0, if_pos (by omega)]
    simp only [Option.bind_some]
    rw [concat_l1 ls hn ls.length k [] 0 (by omega) (by omega) (by omega) (by omega) (by simpa [total] using ht)]
    simp
  | succ d ih =>
    intro k n i h0 h1 hd hk hs hn0
    obtain ⟨k, rfl⟩ : ∃ m, k = m + 1 := ⟨k - 1, by omega⟩
    have hi : i.toNat < ls.length := by omega
    have e : ls.drop i.toNat = rd_L1 ls i :: ls.drop (i + 1).toNat := by
      rw [show (i + 1).toNat = i.toNat + 1 from by omega, List.drop_eq_getElem_cons hi]
      simp [rd_L1, hi]
    rw [e, List.flatten_cons, List.length_append] at hs
    simp only [slices_Concat_byte_byte.l0]
    rw [if_pos (by omega), if_pos h0, if_pos (by omega), w64 (n + _) (by omega), if_neg (by omega), w64 (i + 1) (by omega)]
    exact ih k _ (i + 1) (by omega) (by omega) (by omega) (by omega) (by omega) (by omega)
theorem concat_f (ls : List (List Int)) (hn : ls.length ≤ 1000000000) (ht : ls.flatten.length < 140737488355328) (k : Nat) (hk : 2 * ls.length + 1 < k) : slices_Concat_byte_byte.f k ls = some ls.flatten := by
  unfold slices_Concat_byte_byte.f
  exact concat_l0 ls hn ht ls.length k 0 0 (by omega) (by omega) (by omega) (by omega) (by simp [total]) (by omega)

end Go.Proofs.Ythenkaklhaehbaa.Plain
