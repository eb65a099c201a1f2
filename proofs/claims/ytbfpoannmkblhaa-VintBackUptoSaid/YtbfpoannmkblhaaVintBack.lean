/- What was put is got: Get behind PutWide, with anything ahead and behind. -/
import Derived.Test.YtbfpoannmkblhaaVintPlain
import Derived.Test.YtbfpoannmkblhaaVintRef
namespace Go.Proofs.Ytbfpoannmkblhaa.Plain
open Go.RowKit Go.Proofs.Ytbfpoannmkblhaa.PAll Go.Proofs.YtbfpoannmkblhaaW.PrintWords Go.Proofs.YtbfpoannmkblhaaW.PrintLast Go.Proofs.YtbfpoannmkblhaaW.PrintMore
set_option linter.unusedVariables false
set_option linter.unusedSimpArgs false

theorem split_mod (v p : Int) (hp : 0 < p) : v % (p * 256) = v / p % 256 * p + v % p := by
  have a := Int.mul_ediv_add_emod v p
  have b := Int.mul_ediv_add_emod (v / p) 256
  have r0 := Int.emod_nonneg v (show p ≠ 0 by omega)
  have r1 := Int.emod_lt_of_pos v hp
  have q0 : 0 ≤ v / p % 256 := by omega
  have q1 : v / p % 256 ≤ 255 := by omega
  generalize v % p = r at *
  generalize v / p = q at *
  generalize hd : q / 256 = d at *
  generalize q % 256 = c at *
  have e : v = (c * p + r) + p * 256 * d := by
    rw [← a, ← b, Int.mul_add, Int.mul_assoc, Int.mul_comm c p]
    omega
  have m0 : 0 ≤ c * p := Int.mul_nonneg q0 (by omega)
  have m1 : c * p ≤ 255 * p := Int.mul_le_mul_of_nonneg_right q1 (by omega)
  rw [e, Int.add_mul_emod_self_left, Int.emod_eq_of_lt (by omega) (by omega)]
theorem pow_pos256 (j : Nat) : (0 : Int) < 256 ^ j := Int.pow_pos (by omega)
theorem num_le (j : Nat) : ∀ v a, num a (le j v).reverse = a * 256 ^ j + v % 256 ^ j := by
  induction j with
  | zero => intro v a; simp [num, le, Int.emod_one]
  | succ j ih =>
    intro v a
    rw [le_snoc, List.reverse_append, List.reverse_singleton, List.singleton_append]
    show num (a * 256 + v / 256 ^ j % 256) (le j v).reverse = _
    rw [ih, Int.pow_succ, split_mod v _ (pow_pos256 j), Int.add_mul, Int.mul_assoc a, Int.mul_comm 256 (256 ^ j)]
    omega
theorem rd_mid (b r : List Int) (x : Int) : rd (b ++ x :: r) (b.length : Int) = x := by
  unfold rd
  rw [Int.toNat_natCast, List.getD_eq_getElem?_getD, List.getElem?_append_right (Nat.le_refl _)]
  simp
/-- the first of a number's bytes -/
def topOf (n m : Int) : Int := (n + markOf m) / 256 ^ (wide m - 1).toNat % 256
theorem putw_split (b : List Int) (n : Int) {m : Int} (h0 : 0 ≤ m) (h : m ≤ 3) : putw b n m = b ++ topOf n m :: (le (wide m - 1).toNat n).reverse := by
  have hw := wide_bd h0 h
  unfold putw
  rw [show (wide m).toNat = (wide m - 1).toNat + 1 from by omega, le_snoc, le_mark n h0 h]
  simp [topOf]
theorem top_facts (n : Int) {m : Int} (h0 : 0 ≤ m) (h : m ≤ 3) (hn : 0 ≤ n) (hn' : n < powOf m) :
    widthOf (topOf n m) = wide m ∧ topOf n m % 64 = n / 256 ^ (wide m - 1).toNat ∧ 0 ≤ topOf n m ∧ topOf n m ≤ 255 := by
  rcases four h0 h with rfl | rfl | rfl | rfl
  · have e : n < 64 := hn'
    have t : topOf n 0 = n := by show (n + 0) / 1 % 256 = n; omega
    rw [t]
    refine ⟨?_, ?_, by omega, by omega⟩
    · unfold widthOf; rw [if_pos (by omega)]; rfl
    · show n % 64 = n / 1; omega
  · have e : n < 16384 := hn'
    have t : topOf n 1 = 64 + n / 256 := by show (n + 16384) / 256 % 256 = _; omega
    rw [t]
    refine ⟨?_, ?_, by omega, by omega⟩
    · unfold widthOf; rw [if_neg (by omega), if_pos (by omega)]; rfl
    · show (64 + n / 256) % 64 = n / 256; omega
  · have e : n < 1073741824 := hn'
    have t : topOf n 2 = 128 + n / 16777216 := by show (n + 2147483648) / 16777216 % 256 = _; omega
    rw [t]
    refine ⟨?_, ?_, by omega, by omega⟩
    · unfold widthOf; rw [if_neg (by omega), if_neg (by omega), if_pos (by omega)]; rfl
    · show (128 + n / 16777216) % 64 = n / 16777216; omega
  · have e : n < 4611686018427387904 := hn'
    have t : topOf n 3 = 192 + n / 72057594037927936 := by show (n + -4611686018427387904) / 72057594037927936 % 256 = _; omega
    rw [t]
    refine ⟨?_, ?_, by omega, by omega⟩
    · unfold widthOf; rw [if_neg (by omega), if_neg (by omega), if_neg (by omega)]; rfl
    · show (192 + n / 72057594037927936) % 64 = n / 72057594037927936; omega
theorem putw_len (b : List Int) (n m : Int) (h0 : 0 ≤ m) (h : m ≤ 3) : ((putw b n m).length : Int) = b.length + wide m := by
  have hw := wide_bd h0 h
  unfold putw
  rw [List.length_append, List.length_reverse, le_len]
  omega
theorem putw_bytes {b : List Int} (hb : Bytes b) (n m : Int) : Bytes (putw b n m) := by
  intro x hx
  unfold putw at hx
  rcases List.mem_append.1 hx with h | h
  · exact hb x h
  · exact le_bytes _ _ x (List.mem_reverse.1 h)
theorem get_putw (b r : List Int) (n : Int) {m : Int} (h0 : 0 ≤ m) (h : m ≤ 3) (hn : 0 ≤ n) (hn' : n < powOf m) : get (putw b n m ++ r) b.length = (n, b.length + wide m, 0, 0) := by
  have hw := wide_bd h0 h
  obtain ⟨t1, t2, t3, t4⟩ := top_facts n h0 h hn hn'
  have hl := putw_len b n m h0 h
  have hL : (((putw b n m ++ r).length : Nat) : Int) = b.length + wide m + r.length := by rw [List.length_append]; omega
  have hrd : rd (putw b n m ++ r) b.length = topOf n m := by
    rw [putw_split b n h0 h, List.append_assoc, List.cons_append]
    exact rd_mid _ _ _
  unfold get
  rw [hrd, t1, if_neg (by omega), if_neg (by omega), if_neg (by omega), t2]
  have hd : ((putw b n m ++ r).drop ((b.length : Int) + 1).toNat).take (wide m - 1).toNat = (le (wide m - 1).toNat n).reverse := by
    rw [putw_split b n h0 h, show ((b.length : Int) + 1).toNat = b.length + 1 from by omega, List.append_assoc, List.cons_append, ← List.drop_drop, List.drop_left, List.drop_succ_cons, List.drop_zero]
    rw [List.take_append_of_le_length (by rw [List.length_reverse, le_len]; exact Nat.le_refl _), List.take_of_length_le (by rw [List.length_reverse, le_len]; exact Nat.le_refl _)]
  rw [hd, num_le, Int.mul_comm, Int.mul_ediv_add_emod]
theorem may_mark {n : Int} (h : may n = true) : 0 ≤ mrk (szOf n) ∧ mrk (szOf n) ≤ 3 ∧ wide (mrk (szOf n)) = szOf n ∧ 0 ≤ n ∧ n < powOf (mrk (szOf n)) :=
  mayw_iff (by rw [mayw_size]; exact h)
end Go.Proofs.Ytbfpoannmkblhaa.Plain
