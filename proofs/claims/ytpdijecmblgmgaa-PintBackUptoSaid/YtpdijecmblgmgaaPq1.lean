/- Numbers behind a prefix, in plain words: what is put is got. -/
import Derived.Test.YtpdijecmblgmgaaPa
import Derived.Test.YtpdijecmblgmgaaLists
namespace Go.Proofs.Ytpdijecmblgmgaa.X
open Go Go.RowKit Go.Proofs.YtpdijecmblgmgaaW.Rx Go.Proofs.Ytpdijecmblgmgaa.Plain
set_option linter.unusedVariables false
set_option linter.unusedSimpArgs false
def Full (w : Int) : Int := 2 ^ w.toNat - 1
theorem w18 {w : Int} (h0 : 1 ≤ w) (h : w ≤ 8) : w = 1 ∨ w = 2 ∨ w = 3 ∨ w = 4 ∨ w = 5 ∨ w = 6 ∨ w = 7 ∨ w = 8 := by omega
theorem full_F {w : Int} (h0 : 1 ≤ w) (h : w ≤ 8) (k : Nat) : pint_full.F k w = some (Full w) := by
  unfold pint_full.F
  rcases w18 h0 h with rfl | rfl | rfl | rfl | rfl | rfl | rfl | rfl <;> decide +kernel
theorem full_out {w : Int} (h : w < 1 ∨ 8 < w) (k : Nat) : pint_full.F k w = some 0 := by
  unfold pint_full.F
  by_cases h0 : w < 1
  · rw [decide_eq_true h0]; rfl
  · rw [decide_eq_false h0, decide_eq_true (by omega : 8 < w)]; rfl
theorem full_range {w : Int} (h0 : 1 ≤ w) (h : w ≤ 8) : 1 ≤ Full w ∧ Full w ≤ 255 := by
  rcases w18 h0 h with rfl | rfl | rfl | rfl | rfl | rfl | rfl | rfl <;> decide
theorem full_top {w x : Int} (h0 : 1 ≤ w) (h : w ≤ 8) (h1 : 0 ≤ x) (h2 : x ≤ 255) (e : x % 2 ^ w.toNat = 0) : x + Full w ≤ 255 := by
  rcases w18 h0 h with rfl | rfl | rfl | rfl | rfl | rfl | rfl | rfl <;> (simp [Full] at e ⊢; omega)
theorem b_and (x y : Int) : IntKind.wrap IntKind.i64 (((BitVec.toNat (BitVec.ofInt 64 x &&& BitVec.ofInt 64 y)) : Nat) : Int) = Go.bits .and .i64 x y := rfl
theorem b_or (x y : Int) : IntKind.wrap IntKind.i64 (((BitVec.toNat (BitVec.ofInt 64 x ||| BitVec.ofInt 64 y)) : Nat) : Int) = Go.bits .or .i64 x y := rfl
theorem b_not (x y : Int) : IntKind.wrap IntKind.i64 (((BitVec.toNat (BitVec.ofInt 64 x &&& ~~~BitVec.ofInt 64 y)) : Nat) : Int) = Go.bits .andNot .i64 x y := rfl
theorem b_or8 (x y : Int) : IntKind.wrap IntKind.u8 (((BitVec.toNat (BitVec.ofInt 8 x ||| BitVec.ofInt 8 y)) : Nat) : Int) = Go.bits .or .u8 x y := rfl
theorem b_and8 (x y : Int) : IntKind.wrap IntKind.u8 (((BitVec.toNat (BitVec.ofInt 8 x &&& BitVec.ofInt 8 y)) : Nat) : Int) = Go.bits .and .u8 x y := rfl
theorem and_all : ∀ (w : Fin 9) (x : Fin 256), 1 ≤ w.val → Go.bits .and .i64 (x.val : Int) (2 ^ w.val - 1) = (x.val : Int) % 2 ^ w.val := by decide +kernel
theorem and_full {w x : Int} (h0 : 1 ≤ w) (h : w ≤ 8) (h1 : 0 ≤ x) (h2 : x ≤ 255) : Go.bits .and .i64 x (Full w) = x % 2 ^ w.toNat := by
  have := and_all ⟨w.toNat, by omega⟩ ⟨x.toNat, by omega⟩ (by show 1 ≤ w.toNat; omega)
  simp only [Int.toNat_of_nonneg h1] at this
  exact this
theorem andNot_all : ∀ (w : Fin 9) (x : Fin 256), 1 ≤ w.val → Go.bits .andNot .i64 (x.val : Int) (2 ^ w.val - 1) = (x.val : Int) - (x.val : Int) % 2 ^ w.val := by decide +kernel
theorem andNot_full {w x : Int} (h0 : 1 ≤ w) (h : w ≤ 8) (h1 : 0 ≤ x) (h2 : x ≤ 255) : Go.bits .andNot .i64 x (Full w) = x - x % 2 ^ w.toNat := by
  have := andNot_all ⟨w.toNat, by omega⟩ ⟨x.toNat, by omega⟩ (by show 1 ≤ w.toNat; omega)
  simp only [Int.toNat_of_nonneg h1] at this
  exact this
theorem or128_all : ∀ (x : Fin 256), Go.bits .or .u8 (x.val : Int) 128 = 128 + (x.val : Int) % 128 := by decide +kernel
theorem or128 {x : Int} (h1 : 0 ≤ x) (h2 : x ≤ 255) : Go.bits .or .u8 x 128 = 128 + x % 128 := by
  have := or128_all ⟨x.toNat, by omega⟩
  simp only [Int.toNat_of_nonneg h1] at this
  exact this
theorem and127_all : ∀ (x : Fin 256), Go.bits .and .u8 (x.val : Int) 127 = (x.val : Int) % 128 := by decide +kernel
theorem and127 {x : Int} (h1 : 0 ≤ x) (h2 : x ≤ 255) : Go.bits .and .u8 x 127 = x % 128 := by
  have := and127_all ⟨x.toNat, by omega⟩
  simp only [Int.toNat_of_nonneg h1] at this
  exact this
theorem wrap_u8 (n : Int) : IntKind.u8.wrap n = n % 256 := by
  unfold IntKind.wrap
  simp [IntKind.bits, IntKind.signed]
/-- groups of 7 bits, the least first -/
def tl : Nat → Int → List Int
  | 0, n => [n % 256]
  | d + 1, n => if n < 128 then [n] else (128 + n % 128) :: tl d (n / 128)
theorem tl_pos (d : Nat) (n : Int) : 1 ≤ (tl d n).length := by
  cases d with
  | zero => simp [tl]
  | succ d => simp only [tl]; split <;> simp
theorem tl_most (d : Nat) : ∀ (n : Int), (tl d n).length ≤ d + 1 := by
  induction d with
  | zero => intro n; simp [tl]
  | succ d ih =>
    intro n
    simp only [tl]
    split
    · simp
    · have := ih (n / 128); simp only [List.length_cons]; omega
def PBad (f w n : Int) : Prop := w < 1 ∨ 8 < w ∨ f < 0 ∨ 255 < f ∨ f % 2 ^ w.toNat ≠ 0 ∨ n < 0 ∨ 4611686018427387903 < n
instance (f w n : Int) : Decidable (PBad f w n) := by unfold PBad; infer_instance
def ptail (f w n : Int) : List Int := if n < Full w then [f + n] else (f + Full w) :: tl 8 (n - Full w)
/-- what is put behind b, and the error -/
def pput (b : List Int) (f w n : Int) : List Int × Int := if PBad f w n then ([], 1) else (b ++ ptail f w n, 0)
theorem concat2_F (a b : List Int) (k : Nat) (hk : 3 ≤ k) (h : a.length + b.length ≤ 140737488355328) : slices_Concat_byte_byte.F k [a, b] = some (a ++ b) := by
  obtain ⟨k, rfl⟩ : ∃ m, k = m + 3 := ⟨k - 3, by omega⟩
  have g0 : getI [a, b] 0 = some a := rfl
  have g1 : getI [a, b] 1 = some b := rfl
  have w1 : IntKind.i64.wrap ((0 : Int) + 1) = 1 := by decide
  have w2 : IntKind.i64.wrap ((1 : Int) + 1) = 2 := by decide
  have l3 : (((([a, b] : List (List Int)).length : Nat) : Int)) = 2 := rfl
  have d0 : decide ((0 : Int) < 2) = true := rfl
  have d1 : decide ((1 : Int) < 2) = true := rfl
  have d2 : decide ((2 : Int) < 2) = false := rfl
  have s1 : IntKind.i64.wrap ((0 : Int) + (a.length : Int)) = (a.length : Int) := by rw [wrap_in _ (by omega) (by omega)]; omega
  have s2 : IntKind.i64.wrap ((a.length : Int) + (b.length : Int)) = (a.length : Int) + b.length := by rw [wrap_in _ (by omega) (by omega)]
  have n1 : decide ((a.length : Int) < 0) = false := decide_eq_false (by omega)
  have n2 : decide ((a.length : Int) + b.length < 0) = false := decide_eq_false (by omega)
  have hg : slices_Grow_byte_byte.F (k + 3) ((a.length : Int) + b.length) = some [] := by
    unfold slices_Grow_byte_byte.F
    rw [decide_eq_true (by omega)]; rfl
  have q1 : decide ((([] : List Int).length + a.length) * 1 ≤ 140737488355328) = true := decide_eq_true (by simp only [List.length_nil]; omega)
  have q2 : decide ((a.length + b.length) * 1 ≤ 140737488355328) = true := decide_eq_true (by omega)
  simp only [slices_Concat_byte_byte.F, iter, slices_Concat_byte_byte.s0, slices_Concat_byte_byte.s2, l3, d0, d1, d2, cond_true, cond_false, g0, g1, Option.bind_some, s1, s2, n1, n2, w1, w2, hg, q1, q2, List.nil_append]
theorem put_at (b : List Int) (k : Nat) (hk : 3 ≤ k) (d : Nat) : ∀ (q : Nat) (l : List Int) (n : Int), 0 ≤ n → n < 128 ^ (d + 1) → d < q → b.length + l.length + d + 1 < 140737488355328 → iter (pint_Put.s2 k b) q (l, n) = some (b ++ (l ++ tl d n), 0) := by
  induction d with
  | zero =>
    intro q l n h0 h1 hq hl
    obtain ⟨q, rfl⟩ : ∃ m, q = m + 1 := ⟨q - 1, by omega⟩
    have h2 : n < 128 := by simpa using h1
    have hq : ∀ x : Int, decide ((l.length + ([x] : List Int).length) * 1 ≤ 140737488355328) = true := fun x => decide_eq_true (by simp only [List.length_cons, List.length_nil]; omega)
    simp only [iter, pint_Put.s2, tl, b_or8, hq]
    rw [decide_eq_false (by omega : ¬ 127 < n), wrap_u8, concat2_F _ _ _ hk (by simp only [List.length_append, List.length_cons, List.length_nil]; omega)]
    rfl
  | succ d ih =>
    intro q l n h0 h1 hq hl
    obtain ⟨q, rfl⟩ : ∃ m, q = m + 1 := ⟨q - 1, by omega⟩
    have hq : ∀ x : Int, decide ((l.length + ([x] : List Int).length) * 1 ≤ 140737488355328) = true := fun x => decide_eq_true (by simp only [List.length_cons, List.length_nil]; omega)
    simp only [iter, pint_Put.s2, tl, b_or8, hq]
    by_cases hn : n < 128
    · rw [decide_eq_false (by omega : ¬ 127 < n), wrap_u8, concat2_F _ _ _ hk (by simp only [List.length_append, List.length_cons, List.length_nil]; omega), if_pos hn, show n % 256 = n by omega]
      rfl
    · have e : Go.bits .or .u8 (n % 256) 128 = 128 + n % 128 := by
        rw [or128 (by omega) (by omega)]; omega
      rw [decide_eq_true (by omega : 127 < n), wrap_u8, if_neg hn, e]
      simp only [cond_true, Option.bind_some]
      rw [show Int.fdiv n (2 ^ 7) = n / 128 from Int.fdiv_eq_ediv_of_nonneg _ (by decide), ih q _ (n / 128) (by omega) (by rw [Int.pow_succ] at h1; generalize (128 : Int) ^ (d + 1) = P at h1 ⊢; omega) (by omega) (by simp only [List.length_append, List.length_cons, List.length_nil]; omega)]
      simp
theorem put_F (l : List Int) (hl : l.length ≤ 140737488351232) (f w n : Int) (k : Nat) (hk : 20 ≤ k) : pint_Put.F k l f w n = some (pput l f w n) := by
  unfold pint_Put.F
  simp only [b_and, b_or]
  have bad : PBad f w n → pput l f w n = ([], 1) := fun h => if_pos h
  by_cases hw : w < 1 ∨ 8 < w
  · rw [full_out hw, bad (by unfold PBad; omega)]; rfl
  have h0 : 1 ≤ w := by omega
  have h8 : w ≤ 8 := by omega
  have hF := full_range h0 h8
  rw [full_F h0 h8]
  simp only [Option.bind_some]
  have e0 : (Full w == 0) = false := by simp; omega
  rw [e0]
  simp only [cond_false]
  by_cases f0 : f < 0
  · rw [decide_eq_true f0, bad (by unfold PBad; omega)]; rfl
  rw [decide_eq_false f0]
  by_cases f1 : 255 < f
  · rw [decide_eq_true f1, bad (by unfold PBad; omega)]; rfl
  rw [decide_eq_false f1, and_full h0 h8 (by omega) (by omega)]
  by_cases fm : f % 2 ^ w.toNat = 0
  case neg =>
    have : (f % 2 ^ w.toNat != 0) = true := by simpa using fm
    rw [this, bad (by unfold PBad; omega)]; rfl
  rw [fm]
  by_cases n0 : n < 0
  · rw [decide_eq_true n0, bad (by unfold PBad; omega)]; rfl
  rw [decide_eq_false n0]
  by_cases n1 : 4611686018427387903 < n
  · rw [decide_eq_true n1, bad (by unfold PBad; omega)]; rfl
  rw [decide_eq_false n1, show pput l f w n = (l ++ ptail f w n, 0) from if_neg (by unfold PBad; omega)]
  simp only [bne_self_eq_false, cond_false]
  have hp : (2 : Int) ^ w.toNat = Full w + 1 := by unfold Full; omega
  have ft := full_top h0 h8 (by omega) (by omega) fm
  unfold ptail
  by_cases nF : n < Full w
  · rw [decide_eq_false (by omega : ¬ Full w ≤ n), if_neg (by omega : ¬ Full w < n), if_pos nF, or_join w.toNat f n (by omega) fm (by omega) (by omega) (by rw [hp]; omega) (by omega)]
    simp only [cond_false]
    rw [wrap_u8, concat2_F _ _ _ (by omega) (by simp only [List.length_cons, List.length_nil]; omega), show (f + n) % 256 = f + n by omega]
    rfl
  · have e : (if Full w < n then Full w else n) = Full w := by split <;> omega
    rw [decide_eq_true (by omega : Full w ≤ n), e, if_neg nF, or_join w.toNat f (Full w) (by omega) fm (by omega) (by omega) (by rw [hp]; omega) (by omega), wrap_in _ (by omega) (by omega)]
    simp only [cond_true]
    rw [wrap_u8, put_at l k (by omega) 8 k _ _ (by omega) (by omega) (by omega) (by simp only [List.length_cons, List.length_nil]; omega), show (f + Full w) % 256 = f + Full w by omega]
    rfl
theorem size_F (w n : Int) (k : Nat) (hk : 20 ≤ k) : pint_Size.F k w n = some ((pput [] 0 w n).1.length : Int) := by
  unfold pint_Size.F
  rw [put_F [] (by simp) 0 w n k hk]; rfl
theorem get_at (behind : List Int) (k : Nat) (r5 F n : Int) (hn0 : 0 ≤ n) (hn : n ≤ 4611686018427387903) (hb : behind.length ≤ 140737488351232) (d : Nat) :
    ∀ (q i : Nat) (p : List Int) (N m : Int), i + d = 8 → d < q → p.length ≤ 140737488351240 + i → 1 ≤ p.length → 0 ≤ N → 0 ≤ m → N + m * 128 ^ i = n → m < 128 ^ (d + 1) →
      iter (pint_Get.s3 k (p ++ tl d m ++ behind) r5 F) q ((p.length : Int) - 1, N, (i : Int), 0, 0) = some (Go.bits .andNot .i64 (IntKind.i64.wrap r5) F, n, ((p ++ tl d m).length : Int), 0, 0) := by
  induction d with
  | zero =>
    intro q i p N m hi hq hp hp1 hN hm hs hlt
    obtain ⟨q, rfl⟩ : ∃ z, q = z + 1 := ⟨q - 1, by omega⟩
    have h2 : m < 128 := by simpa using hlt
    have ht : tl 0 m = [m] := by simp only [tl]; rw [show m % 256 = m by omega]
    rw [ht]
    have hlen : (p ++ [m] ++ behind).length = p.length + 1 + behind.length := by simp only [List.length_append, List.length_cons, List.length_nil]
    have hat : IntKind.i64.wrap ((p.length : Int) - 1 + 1) = (p.length : Int) := by rw [wrap_in _ (by omega) (by omega)]; omega
    have hget : getI (p ++ [m] ++ behind) (p.length : Int) = some m := by
      rw [getI_nat, List.append_assoc, List.getElem?_append_right (Nat.le_refl _), Nat.sub_self]; rfl
    have h7 : IntKind.i64.wrap (7 * (i : Int)) = 7 * (i : Int) := wrap_in _ (by omega) (by omega)
    have hmin : min (Int.toNat (7 * (i : Int))) 64 = 7 * i := by omega
    have hp2 : (2 : Int) ^ (7 * i) = 128 ^ i := by rw [Int.pow_mul]; rfl
    have hpos : (0 : Int) < 128 ^ i := Int.pow_pos (by decide)
    have hge : 0 ≤ m * 128 ^ i := Int.mul_nonneg hm (by omega)
    have e1 : Go.bits .and .u8 m 127 = m := by rw [and127 hm (by omega)]; omega
    simp only [iter, pint_Get.s3, hat, hget, b_and8, b_not, h7, hmin, hp2]
    simp only [Option.bind_some, e1]
    rw [decide_eq_true (by omega : (i : Int) < 10), show ((p.length : Int) == (((p ++ [m] ++ behind).length : Nat) : Int)) = false by rw [hlen]; simp; omega]
    simp only [cond_true, cond_false, Option.bind_some]
    rw [show ((i : Int) == 9) = false by simp; omega, decide_eq_true (by omega : (0 : Int) ≤ 7 * i), wrap_in (4611686018427387903 - N) (by omega) (by omega), wrap_in m (by omega) (by omega), Int.fdiv_eq_ediv_of_nonneg _ (by omega)]
    have hle : m ≤ (4611686018427387903 - N) / 128 ^ i := (Int.le_ediv_iff_mul_le hpos).mpr (by omega)
    rw [decide_eq_false (by omega : ¬ (4611686018427387903 - N) / 128 ^ i < m), decide_eq_true h2, wrap_in (m * 128 ^ i) (by omega) (by omega), hs, wrap_in n (by omega) (by omega), wrap_in ((p.length : Int) + 1) (by omega) (by omega)]
    simp only [cond_true, cond_false, Option.bind_some]
    simp
  | succ d ih =>
    intro q i p N m hi hq hp hp1 hN hm hs hlt
    obtain ⟨q, rfl⟩ : ∃ z, q = z + 1 := ⟨q - 1, by omega⟩
    have hat : IntKind.i64.wrap ((p.length : Int) - 1 + 1) = (p.length : Int) := by rw [wrap_in _ (by omega) (by omega)]; omega
    have h7 : IntKind.i64.wrap (7 * (i : Int)) = 7 * (i : Int) := wrap_in _ (by omega) (by omega)
    have hmin : min (Int.toNat (7 * (i : Int))) 64 = 7 * i := by omega
    have hp2 : (2 : Int) ^ (7 * i) = 128 ^ i := by rw [Int.pow_mul]; rfl
    have hpos : (0 : Int) < 128 ^ i := Int.pow_pos (by decide)
    have hmod : 0 ≤ m % 128 * 128 ^ i := Int.mul_nonneg (by omega) (by omega)
    have hdiv : 0 ≤ m / 128 * 128 ^ (i + 1) := Int.mul_nonneg (by omega) (Int.le_of_lt (Int.pow_pos (by decide)))
    have hsplit : m * 128 ^ i = m % 128 * 128 ^ i + m / 128 * 128 ^ (i + 1) := by
      have e : m = m % 128 + m / 128 * 128 := by omega
      rw [Int.pow_succ, show m / 128 * (128 ^ i * 128) = (m / 128 * 128) * 128 ^ i by rw [Int.mul_comm (128 ^ i) 128, Int.mul_assoc], ← Int.add_mul, ← e]
    obtain ⟨c, T, hT, hc0, hc1, hcm, hcase⟩ : ∃ c T, tl (d + 1) m = c :: T ∧ 0 ≤ c ∧ c ≤ 255 ∧ c % 128 = m % 128 ∧ ((m < 128 ∧ c < 128 ∧ T = []) ∨ (¬ m < 128 ∧ ¬ c < 128 ∧ T = tl d (m / 128))) := by
      simp only [tl]
      by_cases h : m < 128
      · rw [if_pos h]; exact ⟨m, [], rfl, hm, by omega, rfl, Or.inl ⟨h, h, rfl⟩⟩
      · rw [if_neg h]; exact ⟨128 + m % 128, _, rfl, by omega, by omega, by omega, Or.inr ⟨h, by omega, rfl⟩⟩
    rw [hT]
    have hlen : (p ++ c :: T ++ behind).length = p.length + 1 + T.length + behind.length := by simp only [List.length_append, List.length_cons]; omega
    have hget : getI (p ++ c :: T ++ behind) (p.length : Int) = some c := by
      rw [getI_nat, List.append_assoc, List.getElem?_append_right (Nat.le_refl _), Nat.sub_self]; rfl
    have e1 : Go.bits .and .u8 c 127 = m % 128 := by rw [and127 hc0 hc1, hcm]
    simp only [iter, pint_Get.s3, hat, hget, b_and8, b_not, h7, hmin, hp2]
    simp only [Option.bind_some, e1]
    rw [decide_eq_true (by omega : (i : Int) < 10), show ((p.length : Int) == (((p ++ c :: T ++ behind).length : Nat) : Int)) = false by rw [hlen]; simp; omega]
    simp only [cond_true, cond_false, Option.bind_some]
    rw [show ((i : Int) == 9) = false by simp; omega, decide_eq_true (by omega : (0 : Int) ≤ 7 * i), wrap_in (4611686018427387903 - N) (by omega) (by omega), wrap_in (m % 128) (by omega) (by omega), Int.fdiv_eq_ediv_of_nonneg _ (by omega)]
    have hle : m % 128 ≤ (4611686018427387903 - N) / 128 ^ i := (Int.le_ediv_iff_mul_le hpos).mpr (by omega)
    rw [decide_eq_false (by omega : ¬ (4611686018427387903 - N) / 128 ^ i < m % 128), wrap_in (m % 128 * 128 ^ i) (by omega) (by omega), wrap_in (N + m % 128 * 128 ^ i) (by omega) (by omega)]
    simp only [cond_true, cond_false, Option.bind_some]
    rcases hcase with ⟨h1, h2, h3⟩ | ⟨h1, h2, h3⟩
    · rw [decide_eq_true h2, wrap_in ((p.length : Int) + 1) (by omega) (by omega), h3]
      have : m / 128 = 0 := by omega
      rw [this, Int.zero_mul, Int.add_zero] at hsplit
      rw [← hsplit, hs]
      simp only [cond_true, Option.bind_some]
      simp
    · rw [decide_eq_false h2, wrap_in ((i : Int) + 1) (by omega) (by omega), h3]
      simp only [cond_false, Option.bind_some]
      have hI := ih q (i + 1) (p ++ [c]) (N + m % 128 * 128 ^ i) (m / 128) (by omega) (by omega) (by simp only [List.length_append, List.length_cons, List.length_nil]; omega) (by simp) (by omega) (by omega) (by omega) (by rw [Int.pow_succ] at hlt; generalize (128 : Int) ^ (d + 1) = P at hlt ⊢; omega)
      have e2 : ((p ++ [c]).length : Int) - 1 = (p.length : Int) := by simp
      rw [e2] at hI
      simp only [List.append_assoc, List.singleton_append, Int.natCast_add, Int.cast_ofNat_Int] at hI ⊢
      exact hI
theorem get_F (b behind : List Int) (f w n : Int) (hbad : ¬ PBad f w n) (hl : b.length ≤ 140737488351232) (hl2 : behind.length ≤ 140737488351232) (k : Nat) (hk : 20 ≤ k) : pint_Get.F k (b ++ ptail f w n ++ behind) (b.length : Int) w = some (f, n, ((b ++ ptail f w n).length : Int), 0, 0) := by
  have hb := hbad
  unfold PBad at hb
  have h0 : 1 ≤ w := by omega
  have h8 : w ≤ 8 := by omega
  have hF := full_range h0 h8
  have fm : f % 2 ^ w.toNat = 0 := by
    by_cases h : f % 2 ^ w.toNat = 0
    · exact h
    · omega
  have ft := full_top h0 h8 (by omega) (by omega) fm
  have hp : (2 : Int) ^ w.toNat = Full w + 1 := by unfold Full; omega
  have hmodF : ∀ y, 0 ≤ y → y ≤ Full w → (f + y) % 2 ^ w.toNat = y := fun y h1 h2 => by
    rw [Int.add_emod, fm, Int.zero_add, Int.emod_emod_of_dvd _ (Int.dvd_refl _), Int.emod_eq_of_lt h1 (by omega)]
  obtain ⟨c, T, hT⟩ : ∃ c T, ptail f w n = c :: T := by
    unfold ptail
    split
    · exact ⟨_, _, rfl⟩
    · exact ⟨_, _, rfl⟩
  have hTl : T.length ≤ 9 := by
    have h1 : (ptail f w n).length ≤ 10 := by
      unfold ptail
      split
      · simp
      · have := tl_most 8 (n - Full w); simp only [List.length_cons]; omega
    rw [hT] at h1
    simp only [List.length_cons] at h1; omega
  have hlen : (b ++ ptail f w n ++ behind).length = b.length + 1 + T.length + behind.length := by rw [hT]; simp only [List.length_append, List.length_cons]; omega
  have hget : getI (b ++ ptail f w n ++ behind) (b.length : Int) = some c := by
    rw [hT, getI_nat, List.append_assoc, List.getElem?_append_right (Nat.le_refl _), Nat.sub_self]; rfl
  unfold pint_Get.F
  rw [full_F h0 h8]
  simp only [Option.bind_some, b_and, b_not]
  rw [decide_eq_false (by omega : ¬ (b.length : Int) < 0), decide_eq_false (by rw [hlen]; omega), show (Full w == 0) = false by simp; omega, show ((b.length : Int) == (((b ++ ptail f w n ++ behind).length : Nat) : Int)) = false by rw [hlen]; simp; omega, hget]
  simp only [cond_false, Option.bind_some]
  by_cases nF : n < Full w
  · have e : ptail f w n = [f + n] := by unfold ptail; rw [if_pos nF]
    rw [e] at hT
    injection hT with hc hT
    subst hc hT
    have q1 : Go.bits .and .i64 (f + n) (Full w) = n := by rw [and_full h0 h8 (by omega) (by omega), hmodF n (by omega) (by omega)]
    have q2 : Go.bits .andNot .i64 (f + n) (Full w) = f := by rw [andNot_full h0 h8 (by omega) (by omega), hmodF n (by omega) (by omega)]; omega
    simp only [wrap_in (f + n) (by omega) (by omega), q1, q2, decide_eq_true nF, cond_true]
    rw [wrap_in _ (by omega) (by omega), e]; simp
  · have e : ptail f w n = (f + Full w) :: tl 8 (n - Full w) := by unfold ptail; rw [if_neg nF]
    rw [e] at hT
    injection hT with hc hT
    subst hc
    have hg := get_at behind k (f + Full w) (Full w) n (by omega) (by omega) hl2 8 k 0 (b ++ [f + Full w]) (Full w) (n - Full w) rfl (by omega) (by
      simp only [List.length_append, List.length_cons, List.length_nil]; omega) (by simp) (by omega) (by omega) (by simp; omega) (by omega)
    have q1 : Go.bits .and .i64 (f + Full w) (Full w) = Full w := by rw [and_full h0 h8 (by omega) (by omega), hmodF (Full w) (by omega) (by omega)]
    simp only [wrap_in (f + Full w) (by omega) (by omega), q1, decide_eq_false (by omega : ¬ Full w < Full w), cond_false]
    rw [e]
    have e3 : ((b ++ [f + Full w]).length : Int) - 1 = (b.length : Int) := by simp
    rw [e3, wrap_in (f + Full w) (by omega) (by omega), andNot_full h0 h8 (by omega) (by omega), hmodF (Full w) (by omega) (by omega), show f + Full w - Full w = f by omega] at hg
    simp only [List.append_assoc, List.singleton_append, List.cons_append] at hg ⊢
    exact hg
/-- the statement's sets -/
theorem palive_F (k : Nat) (hk : 20 ≤ k) : law11_alive.F k = some true := by
  unfold law11_alive.F
  rw [put_F [] (by simp) 224 5 1337 k hk, size_F 5 10 k hk]
  have e1 : pput [] 224 5 1337 = ([255, 154, 10], 0) := by decide
  have e2 : (pput [] 0 5 10).1.length = 1 := by decide
  have hg := get_F [] [] 224 5 1337 (by decide) (by simp) (by simp) k hk
  have e3 : ptail 224 5 1337 = [255, 154, 10] := by decide
  rw [e3] at hg
  simp only [List.nil_append, List.append_nil, List.length_nil] at hg
  rw [e1, e2]
  simp only [Option.bind_some]
  rw [show ((0 : Nat) : Int) = 0 from rfl] at hg
  rw [hg]
  unfold ref01_Same.F
  simp
theorem back_true (b behind : List Int) (f w n : Int) (hl : b.length ≤ 1000000000) (hl2 : behind.length ≤ 1000000000) {k : Nat} (hk : 20 ≤ k) : law11_PintBack.F k b behind f w n = some true := by
  unfold law11_PintBack.F
  rw [put_F b (by omega) f w n k hk, palive_F k hk]
  by_cases h : PBad f w n
  · rw [show pput b f w n = ([], 1) from if_pos h]; rfl
  rw [show pput b f w n = (b ++ ptail f w n, 0) from if_neg h]
  have hpl : (ptail f w n).length ≤ 10 := by
    unfold ptail
    split
    · simp
    · have := tl_most 8 (n - Full w); simp only [List.length_cons]; omega
  have h2 : ¬ PBad 0 w n := by unfold PBad at *; simp; omega
  have hsz : (ptail 0 w n).length = (ptail f w n).length := by unfold ptail; split <;> simp
  have hs : pint_Size.F k w n = some ((ptail f w n).length : Int) := by
    rw [size_F w n k hk, show pput [] 0 w n = ([] ++ ptail 0 w n, 0) from if_neg h2, List.nil_append]
    simp only [hsz]
  simp only [Option.bind_some, bne_self_eq_false, cond_false, List.nil_append]
  rw [decide_eq_true (by simp only [List.length_nil, List.length_append]; omega), decide_eq_true (by simp only [List.length_append]; omega), get_F b behind f w n h (by omega) (by omega) k hk, hs]
  simp only [cond_true, Option.bind_some]
  have e : IntKind.i64.wrap (((b ++ ptail f w n).length : Int) - (b.length : Int)) = ((ptail f w n).length : Int) := by
    rw [wrap_in _ (by simp only [List.length_append]; omega) (by simp only [List.length_append]; omega)]
    simp only [List.length_append]; omega
  rw [e]
  simp
end Go.Proofs.Ytpdijecmblgmgaa.X
