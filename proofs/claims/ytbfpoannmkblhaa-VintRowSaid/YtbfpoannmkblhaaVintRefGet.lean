/- What the reference's Get comes to: the same as vint's; and when two lists of bytes are told the same. -/
import Derived.Test.YtbfpoannmkblhaaVintPlain
import Derived.Test.YtbfpoannmkblhaaPAllx20
import Derived.Test.YtbfpoannmkblhaaPAllx16
namespace Go.Proofs.Ytbfpoannmkblhaa.Plain
open Go.RowKit Go.Proofs.Ytbfpoannmkblhaa.PAll Go.Proofs.YtbfpoannmkblhaaW.PrintWords Go.Proofs.YtbfpoannmkblhaaW.PrintLast Go.Proofs.YtbfpoannmkblhaaW.PrintMore
set_option linter.unusedVariables false
set_option linter.unusedSimpArgs false

theorem refget_l0 (b : List Int) (hb : Bytes b) (hl : b.length ≤ 140737488351232) (a w : Int) (ha : 0 ≤ a) (hw : w ≤ 8) (haw : a + w ≤ b.length) (d : Nat) : ∀ (k : Nat) (n i : Int), 1 ≤ i → i ≤ w → w - i = d → d < k → 0 ≤ n → n < 64 * 256 ^ (i - 1).toNat →
    turnbuckleref01_Get.l0 k b a w n i = some (num n ((b.drop (a + i).toNat).take (w - i).toNat), wrap64 (a + w), 0, 0) := by
  induction d with
  | zero =>
    intro k n i h0 h1 hd hk hn hn'
    obtain ⟨k, rfl⟩ : ∃ m, k = m + 1 := ⟨k - 1, by omega⟩
    rw [turnbuckleref01_Get.l0, if_neg (by omega), show (w - i).toNat = 0 from by omega]; rfl
  | succ d ih =>
    intro k n i h0 h1 hd hk hn hn'
    obtain ⟨k, rfl⟩ : ∃ m, k = m + 1 := ⟨k - 1, by omega⟩
    have hb' := rd_byte hb (a + i) (by omega) (by omega)
    have hp := pow256 (i - 1).toNat (by omega)
    rw [turnbuckleref01_Get.l0, if_pos (by omega), w64 (a + i) (by omega), if_pos (by omega), if_pos (by omega), w64 (n * 256) (by omega), w64 (rd b (a + i)) (by omega), w64 (n * 256 + _) (by omega), w64 (i + 1) (by omega)]
    rw [ih k _ (i + 1) (by omega) (by omega) (by omega) (by omega) (by omega) (by rw [show (i + 1 - 1).toNat = (i - 1).toNat + 1 from by omega, Int.pow_succ]; omega)]
    rw [rd_drop b (a + i) (by omega) (by omega), show (w - i).toNat = (w - (i + 1)).toNat + 1 from by omega, List.take_succ_cons, show a + (i + 1) = a + i + 1 from by omega]
    rfl
theorem refget_f (b : List Int) (hb : Bytes b) (hl : b.length ≤ 140737488351232) (i : Int) (hi : -9223372036854775808 ≤ i ∧ i ≤ 9223372036854775807) (k : Nat) (hk : 40 < k) : turnbuckleref01_Get.f k b i = some (get b i) := by
  obtain ⟨k, rfl⟩ : ∃ j, k = j + 2 := ⟨k - 2, by omega⟩
  unfold turnbuckleref01_Get.f get
  have bad : turnbuckleref01_Get.j0 (k + 2) b i true = some (0, 0, 1, i) := by rw [turnbuckleref01_Get.j0, if_pos rfl]
  by_cases c1 : i < 0
  · rw [if_pos c1, if_pos (Or.inl c1), bad]
  rw [if_neg c1]
  by_cases c2 : i > b.length
  · rw [decide_eq_true c2, if_pos (Or.inr c2), bad]
  rw [decide_eq_false c2, if_neg (by omega), turnbuckleref01_Get.j0, if_neg (by decide)]
  by_cases c3 : i = b.length
  · rw [if_pos c3, if_pos c3]
  rw [if_neg c3, if_neg c3]
  have hc := rd_byte hb i (by omega) (by omega)
  have hw := width_bd (rd b i)
  rw [if_pos (by omega), if_pos (by omega), if_pos (by omega), shl_width hc.1 hc.2, w64 _ (by omega)]
  by_cases c4 : (b.length : Int) - i < widthOf (rd b i)
  · rw [if_pos (by omega), if_pos c4]
  rw [if_neg (by omega), if_neg c4, and63 hc.1 hc.2]
  rw [refget_l0 b hb hl i _ (by omega) (by omega) (by omega) (widthOf (rd b i) - 1).toNat (k + 1) _ 1 (by omega) (by omega) (by omega) (by omega) (by omega) (by simp; omega), w64 _ (by omega)]

theorem same_f {l m : List Int} (hl : Bytes l) (hm : Bytes m) : turnbuckleref01_Same.f l m = some (decide (l = m)) := by
  unfold turnbuckleref01_Same.f
  rw [strOf_inj hl hm]
theorem same_refl (l : List Int) : turnbuckleref01_Same.f l l = some true := by
  unfold turnbuckleref01_Same.f
  rw [strOf_same]
end Go.Proofs.Ytbfpoannmkblhaa.Plain
