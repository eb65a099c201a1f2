/- What pint.Get comes to where it finds no fault. -/
import Derived.Test.YtpdijecmblgmgaaPintPlain
import Derived.Test.YtpdijecmblgmgaaPAllx10
namespace Go.Proofs.Ytpdijecmblgmgaa.Plain
open Go.RowKit Go.Proofs.Ytpdijecmblgmgaa.PAll Go.Proofs.YtpdijecmblgmgaaW.PrintWords Go.Proofs.YtpdijecmblgmgaaW.PrintLast Go.Proofs.YtpdijecmblgmgaaW.PrintMore
set_option linter.unusedVariables false
set_option linter.unusedSimpArgs false

/-- what an answer without a fault tells: the flags, the number behind a head full of ones, the place -/
def Told (F fl at0 : Int) (r : Int × Int × Int × Int × Int) : Prop :=
  (r.2.2.2.1 = 0 ∧ r.2.2.2.2 = 0) → r.1 = fl ∧ F ≤ r.2.1 ∧ r.2.1 ≤ 4611686018427387903 ∧ ∃ j : Nat, j < 9 ∧ r.2.2.1 = at0 + 2 + j ∧ r.2.1 - F < 128 ^ (j + 1)

theorem get_l0 (x : List Int) (hx : Bytes x) (hl : x.length ≤ 140737488351232) (F fl at0 : Int) (h0 : 0 ≤ at0) (hF : 0 ≤ F) (d : Nat) : ∀ (k : Nat) (i : Nat) (n : Int), i + d = 10 → at0 + i < x.length → F ≤ n → n ≤ 4611686018427387903 → n - F < 128 ^ i → 2 * d + 3 < k →
    ∃ r, pint_Get.l0 k x (at0 + i) fl n i = some r ∧ Told F fl at0 r := by
  induction d with
  | zero =>
    intro k i n hi ha hn hm hp hk
    obtain ⟨k, rfl⟩ : ∃ m, k = m + 1 := ⟨k - 1, by omega⟩
    simp only [pint_Get.l0]
    rw [if_neg (by omega)]
    exact ⟨_, rfl, fun h => by simp at h⟩
  | succ d ih =>
    intro k i n hi ha hn hm hp hk
    obtain ⟨k, rfl⟩ : ∃ m, k = m + 2 := ⟨k - 2, by omega⟩
    simp only [pint_Get.l0]
    rw [if_pos (by omega), w64 (at0 + i + 1) (by omega)]
    by_cases e : at0 + i + 1 = (x.length : Int)
    · rw [if_pos e]; exact ⟨_, rfl, fun h => by simp at h⟩
    rw [if_neg e, if_pos (by omega), if_pos (by omega)]
    by_cases e9 : (i : Int) = 9
    · rw [if_pos e9]
      simp only [pint_Get.j2]
      rw [if_pos trivial]
      exact ⟨_, rfl, fun h => by simp at h⟩
    rw [if_neg e9]
    have hb := rd_byte hx (at0 + i + 1) (by omega) (by omega)
    rw [w64 (7 * (i : Int)) (by omega), if_pos (by omega), w64 (4611686018427387903 - n) (by omega), and127 hb.1 hb.2]
    generalize hc : rd x (at0 + i + 1) = c at *
    rw [w64 (c % 128) (by omega), shr_small .i64 _ _ (by show (7 * (i : Int)).toNat ≤ 64; omega)]
    have hp2 : (2 : Int) ^ (7 * (i : Int)).toNat = 128 ^ i := by
      rw [show (7 * (i : Int)).toNat = 7 * i from by omega, Int.pow_mul]; rfl
    have hpos : (0 : Int) < 128 ^ i := Int.pow_pos (by decide)
    simp only [pint_Get.j2]
    by_cases big : c % 128 > (4611686018427387903 - n) / 2 ^ (7 * (i : Int)).toNat
    · rw [if_pos (decide_eq_true big)]
      exact ⟨_, rfl, fun h => by simp at h⟩
    rw [if_neg (by simpa using big), w64 (7 * (i : Int)) (by omega), if_pos (by omega), if_pos (by omega), if_pos (by omega), hc]
    rw [hp2] at big
    have hle : (c % 128) * 128 ^ i ≤ 4611686018427387903 - n := by
      have h1 : c % 128 ≤ (4611686018427387903 - n) / 128 ^ i := by omega
      exact (Int.le_ediv_iff_mul_le hpos).mp h1
    have hge : 0 ≤ (c % 128) * 128 ^ i := Int.mul_nonneg (by omega) (by omega)
    have hshl : shl .i64 (c % 128) (7 * (i : Int)) = (c % 128) * 128 ^ i := by
      rw [shl_fits _ _ (by omega) (by omega) (by rw [hp2]; omega), hp2]
    have hnew : n + (c % 128) * 128 ^ i - F < 128 ^ (i + 1) := by
      have h2 : (c % 128) * 128 ^ i ≤ 127 * 128 ^ i := Int.mul_le_mul_of_nonneg_right (by omega) (by omega)
      rw [Int.pow_succ]; omega
    rw [hshl, w64 (n + _) (by omega)]
    by_cases last : c < 128
    · rw [if_pos last, w64 _ (by omega)]
      exact ⟨_, rfl, fun _ => ⟨rfl, by show F ≤ n + _; omega, by show n + _ ≤ _; omega, i, by omega, by show at0 + i + 1 + 1 = _; omega, hnew⟩⟩
    · rw [if_neg last, w64 (i + 1) (by omega)]
      obtain ⟨r, hr, ht⟩ := ih k (i + 1) (n + (c % 128) * 128 ^ i) (by omega) (by omega) (by omega) (by omega) hnew (by omega)
      refine ⟨r, ?_, ht⟩
      rw [← hr]
      congr 1 <;> omega

theorem get_f (x : List Int) (hx : Bytes x) (hl : x.length ≤ 140737488351232) (at0 w : Int) (k : Nat) (hk : 60 ≤ k) :
    ∃ r, pint_Get.f k x at0 w = some r ∧ ((r.2.2.2.1 = 0 ∧ r.2.2.2.2 = 0) → 1 ≤ w ∧ w ≤ 8 ∧ 0 ≤ at0 ∧ at0 < x.length ∧ 0 ≤ r.1 ∧ r.1 ≤ 255 ∧ r.1 % 2 ^ w.toNat = 0 ∧ 0 ≤ r.2.1 ∧ r.2.1 ≤ 4611686018427387903 ∧
      ((r.2.1 < Full w ∧ r.2.2.1 = at0 + 1) ∨ (Full w ≤ r.2.1 ∧ ∃ j : Nat, j < 9 ∧ r.2.2.1 = at0 + 2 + j ∧ r.2.1 - Full w < 128 ^ (j + 1)))) := by
  obtain ⟨k, rfl⟩ : ∃ m, k = m + 1 := ⟨k - 1, by omega⟩
  have tt : ∀ t, pint_Get.j0 (k + 1) x at0 t true = some (0, 0, 0, 1, at0) := fun t => by simp [pint_Get.j0]
  unfold pint_Get.f
  by_cases hw : w < 1 ∨ 8 < w
  · rw [full_out hw]
    simp only [Option.bind_some]
    refine ⟨(0, 0, 0, 1, at0), ?_, fun h => by simp at h⟩
    split
    · exact tt 0
    · split
      · exact tt 0
      · exact tt 0
  have h0 : 1 ≤ w := by omega
  have h8 : w ≤ 8 := by omega
  have hF := full_range h0 h8
  have hp : (2 : Int) ^ w.toNat = Full w + 1 := by unfold Full; omega
  rw [full_f h0 h8]
  simp only [Option.bind_some]
  by_cases a0 : at0 < 0
  · rw [if_pos a0]; exact ⟨_, tt _, fun h => by simp at h⟩
  rw [if_neg a0]
  by_cases a1 : at0 > (x.length : Int)
  · rw [if_pos a1]; exact ⟨_, tt _, fun h => by simp at h⟩
  rw [if_neg a1, show (Full w == 0) = false from by simp; omega]
  simp only [pint_Get.j0, Bool.false_eq_true, if_false]
  by_cases a2 : at0 = (x.length : Int)
  · rw [if_pos a2]; exact ⟨_, rfl, fun h => by simp at h⟩
  rw [if_neg a2, if_pos (by omega), if_pos (by omega)]
  have hb := rd_byte hx at0 (by omega) (by omega)
  generalize rd x at0 = c at *
  rw [w64 c (by omega), and_full h0 h8 hb.1 hb.2, andNot_full h0 h8 hb.1 hb.2]
  have c1 : 0 ≤ c % 2 ^ w.toNat := Int.emod_nonneg _ (by rw [hp]; omega)
  have c2 : c % 2 ^ w.toNat < 2 ^ w.toNat := Int.emod_lt_of_pos _ (by rw [hp]; omega)
  have c3 : (c - c % 2 ^ w.toNat) % 2 ^ w.toNat = 0 := by rw [Int.sub_emod, Int.emod_emod_of_dvd _ (Int.dvd_refl _), Int.sub_self]; rfl
  have c4 : c % 2 ^ w.toNat ≤ c := by
    have := Int.emod_add_mul_ediv c (2 ^ w.toNat)
    have h3 : 0 ≤ 2 ^ w.toNat * (c / 2 ^ w.toNat) := Int.mul_nonneg (by omega) (Int.ediv_nonneg hb.1 (by omega))
    omega
  by_cases lt : c % 2 ^ w.toNat < Full w
  · rw [if_pos lt, w64 _ (by omega)]
    exact ⟨_, rfl, fun _ => ⟨h0, h8, by omega, by omega, by show 0 ≤ c - _; omega, by show c - _ ≤ 255; omega, c3, c1, by show c % _ ≤ _; omega, Or.inl ⟨lt, rfl⟩⟩⟩
  · rw [if_neg lt]
    have e : c % 2 ^ w.toNat = Full w := by omega
    obtain ⟨r, hr, ht⟩ := get_l0 x hx hl (Full w) (c - c % 2 ^ w.toNat) at0 (by omega) (by omega) 10 k 0 (c % 2 ^ w.toNat) rfl (by simp; omega) (by omega) (by omega) (by rw [e]; simp) (by omega)
    refine ⟨r, ?_, fun h => ?_⟩
    · rw [← hr]; congr 1; simp
    · obtain ⟨t1, t2, t3, t4⟩ := ht h
      rw [t1]
      exact ⟨h0, h8, by omega, by omega, by omega, by omega, c3, by omega, t3, Or.inr ⟨t2, t4⟩⟩
end Go.Proofs.Ytpdijecmblgmgaa.Plain
