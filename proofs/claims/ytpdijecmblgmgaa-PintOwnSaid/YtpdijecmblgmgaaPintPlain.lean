/- What pint's functions, and the reference's, come to, in plain words. -/
import Derived.Test.YtpdijecmblgmgaaLists
import Derived.Test.YtpdijecmblgmgaaConcatPlain
import Derived.Test.YtpdijecmblgmgaaPAllx2
import Derived.Test.YtpdijecmblgmgaaPAllx5
import Derived.Test.YtpdijecmblgmgaaPAllx8
import Derived.Test.YtpdijecmblgmgaaPAllx6
import Derived.Test.YtpdijecmblgmgaaPAllx7
import Derived.Test.YtpdijecmblgmgaaPAllx9
namespace Go.Proofs.Ytpdijecmblgmgaa.Plain
open Go.RowKit Go.Proofs.Ytpdijecmblgmgaa.PAll Go.Proofs.YtpdijecmblgmgaaW.PrintWords Go.Proofs.YtpdijecmblgmgaaW.PrintLast Go.Proofs.YtpdijecmblgmgaaW.PrintMore
set_option linter.unusedVariables false
set_option linter.unusedSimpArgs false

def Full (w : Int) : Int := 2 ^ w.toNat - 1
theorem w18 {w : Int} (h0 : 1 ≤ w) (h : w ≤ 8) : w = 1 ∨ w = 2 ∨ w = 3 ∨ w = 4 ∨ w = 5 ∨ w = 6 ∨ w = 7 ∨ w = 8 := by omega
theorem full_f {w : Int} (h0 : 1 ≤ w) (h : w ≤ 8) : pint_full.f w = some (Full w) := by
  rcases w18 h0 h with rfl | rfl | rfl | rfl | rfl | rfl | rfl | rfl <;> decide +kernel
theorem full_out {w : Int} (h : w < 1 ∨ 8 < w) : pint_full.f w = some 0 := by
  unfold pint_full.f
  by_cases h0 : w < 1
  · rw [if_pos h0]
  · rw [if_neg h0, if_pos (by omega)]
theorem full_range {w : Int} (h0 : 1 ≤ w) (h : w ≤ 8) : 1 ≤ Full w ∧ Full w ≤ 255 := by
  rcases w18 h0 h with rfl | rfl | rfl | rfl | rfl | rfl | rfl | rfl <;> decide
theorem full_top {w x : Int} (h0 : 1 ≤ w) (h : w ≤ 8) (h1 : 0 ≤ x) (h2 : x ≤ 255) (e : x % 2 ^ w.toNat = 0) : x + Full w ≤ 255 := by
  rcases w18 h0 h with rfl | rfl | rfl | rfl | rfl | rfl | rfl | rfl <;> (simp [Full] at e ⊢; omega)
theorem full_next {w : Int} (h0 : 1 ≤ w) (h : w ≤ 8) : Full w ≤ Full (w + 1) := by
  rcases w18 h0 h with rfl | rfl | rfl | rfl | rfl | rfl | rfl | rfl <;> decide
theorem and_all : ∀ (w : Fin 9) (x : Fin 256), 1 ≤ w.val → Go.bits .and .i64 (x.val : Int) (2 ^ w.val - 1) = (x.val : Int) % 2 ^ w.val := by decide +kernel
theorem and_full {w x : Int} (h0 : 1 ≤ w) (h : w ≤ 8) (h1 : 0 ≤ x) (h2 : x ≤ 255) : Go.bits .and .i64 x (Full w) = x % 2 ^ w.toNat := by
  have := and_all ⟨w.toNat, by omega⟩ ⟨x.toNat, by omega⟩ (by show 1 ≤ w.toNat; omega)
  simp only [Int.toNat_of_nonneg h1] at this
  exact this
theorem andNot_all : ∀ (w : Fin 9) (x : Fin 256), 1 ≤ w.val → Go.bits .andNot .i64 (x.val : Int) (2 ^ w.val - 1) = (x.val : Int) - (x.val : Int) % 2 ^ w.val := by decide +kernel
theorem andNot_full {w x : Int} (h0 : 1 ≤ w) (h : w ≤ 8) (h1 : 0 ≤ x) (h2 : x ≤ 255) : Go.bits .andNot .i64 x (Full w) = x - x % 2 ^ w.toNat := by
  have := andNot_all ⟨w.toNat, by omega⟩ ⟨x.toNat, by omega⟩ (by show 1 ≤ w.toNat; omega)
  simp only [Int.toNat_of_nonneg h1] at this
  exact this
theorem or128_all : ∀ (x : Fin 256), Go.bits .or .u8 (x.val : Int) 128 = 128 + (x.val : Int) % 128 := by decide +kernel
theorem or128 {x : Int} (h1 : 0 ≤ x) (h2 : x ≤ 255) : Go.bits .or .u8 x 128 = 128 + x % 128 := by
  have := or128_all ⟨x.toNat, by omega⟩
  simp only [Int.toNat_of_nonneg h1] at this
  exact this
theorem and127_all : ∀ (x : Fin 256), Go.bits .and .u8 (x.val : Int) 127 = (x.val : Int) % 128 := by decide +kernel
theorem and127 {x : Int} (h1 : 0 ≤ x) (h2 : x ≤ 255) : Go.bits .and .u8 x 127 = x % 128 := by
  have := and127_all ⟨x.toNat, by omega⟩
  simp only [Int.toNat_of_nonneg h1] at this
  exact this

/-- groups of 7 bits, the least first -/
def tl : Nat → Int → List Int
  | 0, n => [n % 256]
  | d + 1, n => if n < 128 then [n] else (128 + n % 128) :: tl d (n / 128)
theorem tl_pos (d : Nat) (n : Int) : 1 ≤ (tl d n).length := by
  cases d with
  | zero => simp [tl]
  | succ d => simp only [tl]; split <;> simp
theorem tl_mono (d : Nat) : ∀ (n m : Int), n ≤ m → (tl d n).length ≤ (tl d m).length := by
  induction d with
  | zero => intro n m h; simp [tl]
  | succ d ih =>
    intro n m h
    simp only [tl]
    by_cases hn : n < 128
    · rw [if_pos hn]
      have := tl_pos (d + 1) m
      simpa [tl] using this
    · rw [if_neg hn, if_neg (by omega)]
      have := ih (n / 128) (m / 128) (by omega)
      simp only [List.length_cons]; omega
theorem tl_few (d : Nat) : ∀ (j : Nat) (n : Int), n < 128 ^ (j + 1) → (tl d n).length ≤ j + 1 := by
  induction d with
  | zero => intro j n h; simp [tl]
  | succ d ih =>
    intro j n h
    simp only [tl]
    by_cases hn : n < 128
    · rw [if_pos hn]; simp
    · rw [if_neg hn]
      cases j with
      | zero => omega
      | succ j =>
        have := ih j (n / 128) (by rw [Int.pow_succ] at h; generalize (128 : Int) ^ (j + 1) = P at h ⊢; omega)
        simp only [List.length_cons]; omega
theorem tl_most (d : Nat) : ∀ (n : Int), (tl d n).length ≤ d + 1 := by
  induction d with
  | zero => intro n; simp [tl]
  | succ d ih =>
    intro n
    simp only [tl]
    split
    · simp
    · have := ih (n / 128); simp only [List.length_cons]; omega

def Bad (f w n : Int) : Prop := w < 1 ∨ 8 < w ∨ f < 0 ∨ 255 < f ∨ f % 2 ^ w.toNat ≠ 0 ∨ n < 0 ∨ 4611686018427387903 < n
instance (f w n : Int) : Decidable (Bad f w n) := by unfold Bad; infer_instance
/-- what is put behind b, and the error -/
def pput (b : List Int) (f w n : Int) : List Int × Int :=
  if Bad f w n then ([], 1) else if n < Full w then (b ++ [f + n], 0) else (b ++ ((f + Full w) :: tl 8 (n - Full w)), 0)

theorem put_l0 (x0 : List Int) (d : Nat) : ∀ (k : Nat) (l : List Int) (n : Int), 0 ≤ n → n < 128 ^ (d + 1) → d + 10 < k → x0.length + l.length + d + 1 < 140737488355328 →
    pint_Put.l0 k x0 l n = some (x0 ++ (l ++ tl d n), 0) := by
  induction d with
  | zero =>
    intro k l n h0 h1 hk hl
    obtain ⟨k, rfl⟩ : ∃ m, k = m + 1 := ⟨k - 1, by omega⟩
    simp only [pint_Put.l0]
    rw [if_neg (by omega), if_pos (by omega), concat_f _ (by simp) (by simp; omega) k (by simp; omega)]
    simp [tl]
  | succ d ih =>
    intro k l n h0 h1 hk hl
    obtain ⟨k, rfl⟩ : ∃ m, k = m + 1 := ⟨k - 1, by omega⟩
    simp only [pint_Put.l0, tl]
    by_cases hn : n < 128
    · rw [if_neg (by omega), if_pos (by omega), concat_f _ (by simp) (by simp; omega) k (by simp; omega), if_pos hn]
      simp; omega
    · rw [if_pos (by omega), if_pos (by omega), ih k _ (n / 128) (by omega) (by rw [Int.pow_succ] at h1; generalize (128 : Int) ^ (d + 1) = P at h1 ⊢; omega) (by omega) (by simp; omega), if_neg hn, or128 (by omega) (by omega)]
      simp only [List.append_assoc, List.singleton_append]
      rw [show n % 256 % 128 = n % 128 from by omega]

theorem put_f (l : List Int) (hl : l.length ≤ 140737488351232) (f w n : Int) (k : Nat) (hk : 60 ≤ k) : pint_Put.f k l f w n = some (pput l f w n) := by
  obtain ⟨k, rfl⟩ : ∃ m, k = m + 1 := ⟨k - 1, by omega⟩
  have tt : ∀ t, pint_Put.j0 (k + 1) l f n t true = some ([], 1) := fun t => by simp [pint_Put.j0]
  unfold pint_Put.f pput
  by_cases hw : w < 1 ∨ 8 < w
  · rw [full_out hw, if_pos (by unfold Bad; omega)]
    simp only [Option.bind_some]
    rw [if_pos trivial, tt]
  · have h0 : 1 ≤ w := by omega
    have h8 : w ≤ 8 := by omega
    have hF := full_range h0 h8
    rw [full_f h0 h8]
    simp only [Option.bind_some]
    rw [if_neg (by omega)]
    by_cases f0 : f < 0
    · rw [if_pos f0, tt, if_pos (by unfold Bad; omega)]
    rw [if_neg f0]
    by_cases f1 : f > 255
    · rw [if_pos f1, tt, if_pos (by unfold Bad; omega)]
    rw [if_neg f1, and_full h0 h8 (by omega) (by omega)]
    by_cases fm' : ¬ f % 2 ^ w.toNat = 0
    · rw [if_neg fm', tt, if_pos (by unfold Bad; omega)]
    have fm : f % 2 ^ w.toNat = 0 := by omega
    rw [if_pos fm]
    by_cases n0 : n < 0
    · rw [if_pos n0, tt, if_pos (by unfold Bad; omega)]
    rw [if_neg n0]
    by_cases n1 : n > 4611686018427387903
    · rw [decide_eq_true n1, tt, if_pos (by unfold Bad; omega)]
    rw [decide_eq_false n1, if_neg (by unfold Bad; omega)]
    have hp : (2 : Int) ^ w.toNat = Full w + 1 := by unfold Full; omega
    have ft := full_top h0 h8 (by omega) (by omega) fm
    simp only [pint_Put.j0, Bool.false_eq_true, if_false, Option.bind_some]
    have hm := mn_le n (Full w)
    rw [or_join w.toNat f (mn n (Full w)) (by omega) fm (by omega) (by omega) (by rw [hp]; omega) (by omega)]
    by_cases nF : n < Full w
    · have e : mn n (Full w) = n := by unfold mn; rw [if_neg (by omega)]
      rw [if_neg (by omega), if_pos nF, e, concat_f _ (by simp) (by simp; omega) k (by simp; omega)]
      simp; omega
    · have e : mn n (Full w) = Full w := by unfold mn; split <;> omega
      rw [if_pos (by omega), if_neg nF, e, w64 _ (by omega), put_l0 l 8 k _ _ (by omega) (by omega) (by omega) (by simp; omega)]
      simp; omega

theorem refput_l0 (d : Nat) : ∀ (k : Nat) (n : Int) (l : List Int), 0 ≤ n → n < 128 ^ (d + 1) → n ≤ 4611686018427387903 → d + 10 < k → l.length + d + 1 < 140737488355328 →
    turnbuckleref11_Put.l0 k n l = some (l ++ tl d n, 0) := by
  induction d with
  | zero =>
    intro k n l h0 h1 h2 hk hl
    obtain ⟨k, rfl⟩ : ∃ m, k = m + 1 := ⟨k - 1, by omega⟩
    simp only [turnbuckleref11_Put.l0]
    rw [if_neg (by omega), if_pos (by omega)]
    simp [tl]
  | succ d ih =>
    intro k n l h0 h1 h2 hk hl
    obtain ⟨k, rfl⟩ : ∃ m, k = m + 1 := ⟨k - 1, by omega⟩
    simp only [turnbuckleref11_Put.l0, tl]
    by_cases hn : n < 128
    · rw [if_neg (by omega), if_pos (by omega), if_pos hn, show n % 256 = n from by omega]
    · rw [if_pos (by omega), if_pos (by omega), Int.tdiv_eq_ediv_of_nonneg h0, Int.tmod_eq_emod_of_nonneg h0, w64 _ (by omega), w64 _ (by omega), ih k (n / 128) _ (by omega) (by rw [Int.pow_succ] at h1; generalize (128 : Int) ^ (d + 1) = P at h1 ⊢; omega) (by omega) (by omega) (by simp; omega), if_neg hn]
      simp only [List.append_assoc, List.singleton_append]
      rw [show (128 + n % 128) % 256 = 128 + n % 128 from by omega]

theorem shl_full {w : Int} (h0 : 1 ≤ w) (h : w ≤ 8) : shl .i64 1 w = Full w + 1 := by
  rcases w18 h0 h with rfl | rfl | rfl | rfl | rfl | rfl | rfl | rfl <;> decide +kernel

theorem refput_f (l : List Int) (hl : l.length ≤ 140737488351232) (f w n : Int) (k : Nat) (hk : 60 ≤ k) : turnbuckleref11_Put.f k l f w n = some (pput l f w n) := by
  obtain ⟨k, rfl⟩ : ∃ m, k = m + 1 := ⟨k - 1, by omega⟩
  have tt : turnbuckleref11_Put.j0 (k + 1) l f w n true = some ([], 1) := by simp [turnbuckleref11_Put.j0]
  unfold turnbuckleref11_Put.f pput turnbuckleref11_width.f
  by_cases hw : w < 1 ∨ 8 < w
  · rw [show (if w ≥ 1 then some (decide (w ≤ 8)) else some false) = some false from by split <;> simp; omega]
    simp only [Option.bind_some, Bool.false_eq_true, if_false]
    rw [if_pos (by unfold Bad; omega)]
    exact tt
  · have h0 : 1 ≤ w := by omega
    have h8 : w ≤ 8 := by omega
    have hF := full_range h0 h8
    have hp : (2 : Int) ^ w.toNat = Full w + 1 := by unfold Full; omega
    rw [if_pos h0, decide_eq_true h8]
    simp only [Option.bind_some, if_true]
    by_cases f0 : f < 0
    · rw [if_pos f0, tt, if_pos (by unfold Bad; omega)]
    rw [if_neg f0]
    by_cases f1 : f > 255
    · rw [if_pos f1, tt, if_pos (by unfold Bad; omega)]
    rw [if_neg f1, if_pos (by omega), shl_full h0 h8, if_neg (by omega), Int.tmod_eq_emod_of_nonneg (by omega), ← hp]
    by_cases fm' : ¬ f % 2 ^ w.toNat = 0
    · rw [if_neg fm', tt, if_pos (by unfold Bad; omega)]
    have fm : f % 2 ^ w.toNat = 0 := by omega
    rw [if_pos fm]
    by_cases n0 : n < 0
    · rw [if_pos n0, tt, if_pos (by unfold Bad; omega)]
    rw [if_neg n0]
    by_cases n1 : n > 4611686018427387903
    · rw [decide_eq_true n1, tt, if_pos (by unfold Bad; omega)]
    rw [decide_eq_false n1, if_neg (by unfold Bad; omega)]
    have ft := full_top h0 h8 (by omega) (by omega) fm
    simp only [turnbuckleref11_Put.j0, Bool.false_eq_true, if_false, Option.bind_some, List.length_nil, Nat.zero_add, List.nil_append]
    rw [if_pos (by omega), if_pos (by omega), shl_full h0 h8, show Full w + 1 - 1 = Full w from by omega, w64 (Full w) (by omega)]
    by_cases nF : n < Full w
    · rw [if_pos nF, if_pos (by omega), if_pos nF, w64 _ (by omega), show (f + n) % 256 = f + n from by omega]
    · rw [if_neg nF, if_pos (by omega), if_neg nF, w64 _ (by omega), w64 _ (by omega), refput_l0 8 k _ _ (by omega) (by omega) (by omega) (by omega) (by simp; omega), show (f + Full w) % 256 = f + Full w from by omega]
      simp

/-- how many bytes a number takes -/
def psize (w n : Int) : Int := if Bad 0 w n then 0 else if n < Full w then 1 else 1 + (tl 8 (n - Full w)).length
theorem pput_size (w n : Int) : ((pput [] 0 w n).1.length : Int) = psize w n := by
  unfold pput psize
  split
  · rfl
  · split
    · rfl
    · simp; omega
theorem size_f (w n : Int) (k : Nat) (hk : 60 ≤ k) : pint_Size.f k w n = some (psize w n) := by
  unfold pint_Size.f
  rw [put_f [] (by simp) 0 w n k hk]
  simp only [Option.bind_some]
  rw [pput_size]
theorem refsize_f (w n : Int) (k : Nat) (hk : 60 ≤ k) : turnbuckleref11_Size.f k w n = some (psize w n) := by
  unfold turnbuckleref11_Size.f
  rw [refput_f [] (by simp) 0 w n k hk]
  simp only [Option.bind_some]
  rw [pput_size]
end Go.Proofs.Ytpdijecmblgmgaa.Plain
