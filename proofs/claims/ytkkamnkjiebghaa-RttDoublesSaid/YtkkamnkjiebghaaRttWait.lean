/- What the waits of rtt come to, in plain words. -/
import Derived.Test.YtkkamnkjiebghaaPAllx15
import Derived.Test.YtkkamnkjiebghaaPAllx17
import Derived.Test.YtkkamnkjiebghaaPAllx18
import Derived.Test.YtkkamnkjiebghaaPAllx19
import Derived.Test.YtkkamnkjiebghaaRttPlain
namespace Go.Proofs.Ytkkamnkjiebghaa.Plain
open Go.RowKit Go.Proofs.Ytkkamnkjiebghaa.PAll Go.Proofs.YtkkamnkjiebghaaW.PrintWords Go.Proofs.YtkkamnkjiebghaaW.PrintLast Go.Proofs.YtkkamnkjiebghaaW.PrintMore
set_option linter.unusedVariables false
set_option linter.unusedSimpArgs false

/-- the wait that is not doubled -/
def base (s : St) : Int := if s.h then s.b + mx (s.c * 4) 1 + 25 else 125
theorem base_bd {s : St} (h : s.ok = true) : 1 ≤ base s ∧ base s ≤ 10000000000000 := by
  unfold base
  cases hh : s.h with
  | true => rw [if_pos rfl]; have := ok_true h hh; have := mx_le (s.c * 4) 1; omega
  | false => rw [if_neg (by decide)]; omega

def wait (m d : Int) : Int := mn (mn m 1048576 * 2 ^ (mn d 20).toNat) 1048576

theorem one_le_pow2 (n : Nat) : (1 : Int) ≤ 2 ^ n := by
  have h : (1 : Nat) ≤ 2 ^ n := Nat.one_le_two_pow
  exact_mod_cast h
theorem big_mn (x : Int) (h : 1048576 ≤ x) : mn x 1048576 = 1048576 := by unfold mn; split <;> omega
theorem two20 : (2 : Int) ^ 20 = 1048576 := by decide
theorem pow_le20 (n : Nat) (h : n ≤ 20) : (1 : Int) ≤ 2 ^ n ∧ (2 : Int) ^ n ≤ 1048576 := by
  have h1 : (1 : Nat) ≤ 2 ^ n := Nat.one_le_two_pow
  have h2 : 2 ^ n ≤ 2 ^ 20 := Nat.pow_le_pow_right (by decide) h
  have h3 : ((2 ^ n : Nat) : Int) = (2 : Int) ^ n := by simp
  omega

theorem shl_small' (x n : Int) (h0 : 0 ≤ n) (h : n ≤ 20) (hx : 0 ≤ x) (hx' : x ≤ 1048576) : shl .i64 x n = x * 2 ^ n.toNat := by
  have hp := pow_le20 n.toNat (by omega)
  have hprod : x * 2 ^ n.toNat ≤ 1048576 * 1048576 := Int.mul_le_mul (by omega) hp.2 (by omega) (by omega)
  have hprod0 : 0 ≤ x * 2 ^ n.toNat := Int.mul_nonneg (by omega) (by omega)
  unfold shl
  rw [show min n.toNat IntKind.i64.bits = n.toNat from Nat.min_eq_left (by show n.toNat ≤ 64; omega), IntWalk.i64_left, w64 _ (by omega)]
theorem probe_no (k : Nat) (hk : 5 < k) (s : St) (d : Int) (h : (s.ok && decide (0 ≤ d)) = false) : rtt_Probe.f k s.h s.a s.b s.c s.d d = some (0, 1) := by
  unfold rtt_Probe.f
  obtain ⟨k, rfl⟩ : ∃ m, k = m + 1 := ⟨k - 1, by omega⟩
  rw [right_f _ (by omega)]
  simp only [Option.bind_some]
  unfold St.ok at h
  by_cases e : rgt s.h s.a s.b s.c s.d = true
  · rw [if_pos e]
    rw [e, Bool.true_and, decide_eq_false_iff_not] at h
    rw [decide_eq_true (by omega), rtt_Probe.j0, if_pos rfl]
  · rw [if_neg e, rtt_Probe.j0, if_pos rfl]

theorem probe_yes (k : Nat) (hk : 5 < k) (s : St) (d : Int) (h : s.ok = true) (hd : 0 ≤ d) : rtt_Probe.f k s.h s.a s.b s.c s.d d = some (wait (base s) d, 0) := by
  unfold rtt_Probe.f
  obtain ⟨k, rfl⟩ : ∃ m, k = m + 1 := ⟨k - 1, by omega⟩
  rw [right_f _ (by omega)]
  simp only [Option.bind_some]
  have h' := h
  have hb := base_bd h
  unfold St.ok at h
  rw [if_pos h, decide_eq_false (by omega), rtt_Probe.j0, if_neg (by decide)]
  have hm := mn_le d 20
  have hp := pow_le20 (mn d 20).toNat (by omega)
  have hq := mn_le (base s) 1048576
  have hprod : mn (base s) 1048576 * 2 ^ (mn d 20).toNat ≤ 1048576 * 1048576 := Int.mul_le_mul (by omega) hp.2 (by omega) (by omega)
  have hprod0 : 0 ≤ mn (base s) 1048576 * 2 ^ (mn d 20).toNat := Int.mul_nonneg (by omega) (by omega)
  cases hh : s.h with
  | true =>
    have b := ok_true h' hh
    have m2 := mx_le (s.c * 4) 1
    rw [if_pos rfl, if_pos (by omega), w64 (s.c * 4) (by omega), w64 (s.b + _) (by omega), w64 (_ + 25) (by omega)]
    have e : base s = s.b + mx (s.c * 4) 1 + 25 := by unfold base; rw [if_pos hh]
    rw [← e, shl_small' _ _ (by omega) (by omega) (by omega) (by omega)]
    rfl
  | false =>
    rw [if_neg (by decide), if_pos (by omega)]
    have e : base s = 125 := by unfold base; rw [hh]; rfl
    rw [shl_small' _ _ (by omega) (by omega) (by omega) (by omega), e]
    rfl

theorem refright_f (h : Bool) (a b c d : Int) : turnbuckleref06_Right.f h a b c d = some (rgt h a b c d) := by
  unfold turnbuckleref06_Right.f rgt
  cases h with
  | false => simp
  | true =>
    simp only [tick_f, Option.bind_some, if_true]
    cases tk a <;> cases tk b <;> cases tk c <;> cases tk d <;> simp

theorem refloop (D : Int) (hD : 0 ≤ D) (r : Nat) : ∀ (k : Nat) (n i : Int), 1 ≤ n → n ≤ 10000000000000 → 0 ≤ i → i ≤ D → i + r ≤ 1000000 → 1048576 ≤ n * 2 ^ r → r < k →
    turnbuckleref06_Probe.l0 k D n i = some (mn (n * 2 ^ (D - i).toNat) 1048576, 0) := by
  induction r with
  | zero =>
    intro k n i h1 h1' h2 h3 h4 h5 hk
    obtain ⟨k, rfl⟩ : ∃ m, k = m + 1 := ⟨k - 1, by omega⟩
    simp only [Int.pow_zero, Int.mul_one] at h5
    have hp : (1 : Int) ≤ 2 ^ (D - i).toNat := one_le_pow2 _
    have hq : n * 1 ≤ n * 2 ^ (D - i).toNat := Int.mul_le_mul_of_nonneg_left hp (by omega)
    have e : mn (n * 2 ^ (D - i).toNat) 1048576 = mn n 1048576 := by unfold mn; split <;> split <;> omega
    rw [e]
    simp only [turnbuckleref06_Probe.l0]
    by_cases c : i < D
    · rw [if_pos c, if_neg (by omega)]
    · rw [if_neg c]
  | succ r ih =>
    intro k n i h1 h1' h2 h3 h4 h5 hk
    obtain ⟨k, rfl⟩ : ∃ m, k = m + 1 := ⟨k - 1, by omega⟩
    simp only [turnbuckleref06_Probe.l0]
    by_cases c : i < D
    · rw [if_pos c]
      by_cases c2 : n < 1048576
      · rw [if_pos c2, w64 _ (by omega), w64 _ (by omega), ih k (2 * n) (i + 1) (by omega) (by omega) (by omega) (by omega) (by omega) (by rw [Int.pow_succ] at h5; rw [Int.mul_comm 2 n, Int.mul_assoc, Int.mul_comm 2]; exact h5) (by omega)]
        rw [show (D - i).toNat = (D - (i + 1)).toNat + 1 from by omega, Int.pow_succ, Int.mul_comm 2 n, Int.mul_assoc, Int.mul_comm 2]
      · rw [if_neg c2]
        have hp : (1 : Int) ≤ 2 ^ (D - i).toNat := one_le_pow2 _
        have hq : n * 1 ≤ n * 2 ^ (D - i).toNat := Int.mul_le_mul_of_nonneg_left hp (by omega)
        have e : mn (n * 2 ^ (D - i).toNat) 1048576 = mn n 1048576 := by unfold mn; split <;> split <;> omega
        rw [e]
    · rw [if_neg c, show (D - i).toNat = 0 from by omega]; simp

theorem wait_eq (m D : Int) (hm : 1 ≤ m) (hD : 0 ≤ D) : mn (m * 2 ^ D.toNat) 1048576 = wait m D := by
  unfold wait
  have hp : (1 : Int) ≤ 2 ^ D.toNat := one_le_pow2 _
  have hp2 : (1 : Int) ≤ 2 ^ (mn D 20).toNat := one_le_pow2 _
  have hq : m * 1 ≤ m * 2 ^ D.toNat := Int.mul_le_mul_of_nonneg_left hp (by omega)
  have hd := mn_le D 20
  by_cases c : m < 1048576
  · rw [show mn m 1048576 = m from by unfold mn; rw [if_neg (by omega)]]
    by_cases c2 : D ≤ 20
    · rw [show mn D 20 = D from by unfold mn; rw [if_neg (by omega)]]
    · rw [show mn D 20 = 20 from by unfold mn; rw [if_pos (by omega)]]
      have hp3 : (2 : Int) ^ 20 ≤ 2 ^ D.toNat := by
        have := Nat.pow_le_pow_right (show 0 < 2 by decide) (show 20 ≤ D.toNat by omega)
        exact_mod_cast this
      have h1 : m * 2 ^ 20 ≤ m * 2 ^ D.toNat := Int.mul_le_mul_of_nonneg_left hp3 (by omega)
      have h2 : (2 : Int) ^ (20 : Int).toNat = 1048576 := by decide
      have h3 : (2 : Int) ^ 20 = 1048576 := by decide
      rw [h2]
      rw [h3] at h1
      unfold mn
      split <;> split <;> omega
  · rw [show mn m 1048576 = 1048576 from by unfold mn; split <;> omega]
    have hq2 : (1048576 : Int) * 1 ≤ 1048576 * 2 ^ (mn D 20).toNat := Int.mul_le_mul_of_nonneg_left hp2 (by omega)
    rw [big_mn _ (by omega), big_mn _ (by omega)]

theorem refprobe (k : Nat) (hk : 60 < k) (s : St) (d : Int) : turnbuckleref06_Probe.f k s.h s.a s.b s.c s.d d = if (s.ok && decide (0 ≤ d)) = true then some (wait (base s) d, 0) else some (0, 1) := by
  unfold turnbuckleref06_Probe.f
  obtain ⟨k, rfl⟩ : ∃ m, k = m + 2 := ⟨k - 2, by omega⟩
  rw [refright_f]
  simp only [Option.bind_some]
  by_cases e : rgt s.h s.a s.b s.c s.d = true
  · rw [if_pos e]
    have ok : s.ok = true := e
    rw [ok, Bool.true_and]
    by_cases e2 : 0 ≤ d
    · rw [decide_eq_true e2, if_pos rfl, decide_eq_false (by omega), turnbuckleref06_Probe.j0, if_neg (by decide)]
      have hb := base_bd ok
      have fin : turnbuckleref06_Probe.j1 (k + 1) d (base s) = some (wait (base s) d, 0) := by
        rw [turnbuckleref06_Probe.j1, refloop d e2 20 k (base s) 0 hb.1 hb.2 (by omega) e2 (by omega) (by rw [two20]; omega) (by omega), ← wait_eq _ _ hb.1 e2]
        simp
      cases hh : s.h with
      | true =>
        have b := ok_true ok hh
        have m2 := mx_le (s.c * 4) 1
        rw [if_pos rfl, Int.mul_comm 4, w64 (s.c * 4) (by omega), w64 (s.b + _) (by omega), w64 (_ + 25) (by omega)]
        have e : base s = s.b + mx (s.c * 4) 1 + 25 := by unfold base; rw [if_pos hh]
        rw [← e]; exact fin
      | false =>
        rw [if_neg (by decide)]
        have e : base s = 125 := by unfold base; rw [hh]; rfl
        rw [← e]; exact fin
    · rw [decide_eq_false e2, if_neg (by decide), decide_eq_true (by omega), turnbuckleref06_Probe.j0, if_pos rfl]
  · rw [if_neg e, turnbuckleref06_Probe.j0, if_pos rfl]
    have ok : s.ok = false := by simpa [St.ok] using e
    rw [ok]; rfl
end Go.Proofs.Ytkkamnkjiebghaa.Plain
