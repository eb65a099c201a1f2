import Derived.Test.YtpdchohbmmfemaazLists
namespace Go.Proofs.Ytpdchohbmmfemaa.Plain
open Go Go.RowKit Go.Proofs.YtpdchohbmmfemaaW.PrintWords Go.Proofs.YtpdchohbmmfemaaW.PrintLast Go.Proofs.YtpdchohbmmfemaaW.PrintMore
set_option linter.unusedVariables false
set_option linter.unusedSimpArgs false
def le : Nat → Int → List Int
 | 0, _ => []
 | w + 1, v => (v % 256) :: le w (v / 256)
theorem le_len (w : Nat) : ∀ v, (le w v).length = w := by
 induction w with
 | zero => intro v; rfl
 | succ w ih => intro v; simp [le, ih]
def bitsOf : Int → Int := fun m => if m = 0 then 6 else if m = 1 then 14 else if m = 2 then 30 else 62
def powOf : Int → Int := fun m => if m = 0 then 64 else if m = 1 then 16384 else if m = 2 then 1073741824 else 4611686018427387904
def wide : Int → Int := fun m => if m = 0 then 1 else if m = 1 then 2 else if m = 2 then 4 else 8
theorem four {m : Int} (h0 : 0 ≤ m) (h : m ≤ 3) : m = 0 ∨ m = 1 ∨ m = 2 ∨ m = 3 := by omega
def markOf : Int → Int := fun m => if m = 0 then 0 else if m = 1 then 16384 else if m = 2 then 2147483648 else -4611686018427387904
def putw (b : List Int) (n m : Int) : List Int := b ++ (le (wide m).toNat (n + markOf m)).reverse
theorem or_high (n : Int) (h0 : 0 ≤ n) (h : n < 4611686018427387904) : Go.bits .or .i64 (-4611686018427387904) n = n - 4611686018427387904 := by
 obtain ⟨a, rfl⟩ := Int.eq_ofNat_of_zero_le h0
 show IntKind.i64.wrap ((BitVec.ofInt 64 (-4611686018427387904) ||| BitVec.ofInt 64 (a : Int)).toNat : Int) = _
 rw [show BitVec.ofInt 64 (-4611686018427387904) = BitVec.ofNat 64 13835058055282163712 from by decide +kernel, BitVec.ofInt_natCast, BitVec.toNat_or, BitVec.toNat_ofNat, BitVec.toNat_ofNat, Nat.mod_eq_of_lt (by omega), Nat.mod_eq_of_lt (by omega), nat_join 62 _ a (by omega) (by omega), wrap_i64]
 unfold wrap64
 omega
theorem or_mark (n : Int) {m : Int} (h0 : 0 ≤ m) (h : m ≤ 3) (hn : 0 ≤ n) (hn' : n < powOf m) : Go.bits .or .i64 n (shl .i64 m (bitsOf m)) = n + markOf m := by
 rw [or_comm]
 rcases four h0 h with rfl | rfl | rfl | rfl
 ·have e : n < 64 := hn'
  rw [show shl .i64 0 (bitsOf 0) = 0 from by decide +kernel, or_join 6 0 n (by omega) (by omega) (by omega) hn e (by omega)]
  simp [markOf]
 ·have e : n < 16384 := hn'
  rw [show shl .i64 1 (bitsOf 1) = 16384 from by decide +kernel, or_join 14 16384 n (by omega) (by omega) (by omega) hn e (by omega)]
  simp [markOf]; omega
 ·have e : n < 1073741824 := hn'
  rw [show shl .i64 2 (bitsOf 2) = 2147483648 from by decide +kernel, or_join 30 2147483648 n (by omega) (by omega) (by omega) hn e (by omega)]
  simp [markOf]; omega
 ·have e : n < 4611686018427387904 := hn'
  rw [show shl .i64 3 (bitsOf 3) = -4611686018427387904 from by decide +kernel, or_high n hn e]
  simp [markOf]; omega
theorem wide_bd {m : Int} (h0 : 0 ≤ m) (h : m ≤ 3) : 1 ≤ wide m ∧ wide m ≤ 8 := by rcases four h0 h with rfl | rfl | rfl | rfl <;> decide
def mayw (n w : Int) : Bool := (decide (w = 1) || decide (w = 2) || decide (w = 4) || decide (w = 8)) && (decide (0 ≤ n) && decide (n < powOf (if w = 1 then 0 else if w = 2 then 1 else if w = 4 then 2 else 3)))
def mrk (w : Int) : Int := if w = 1 then 0 else if w = 2 then 1 else if w = 4 then 2 else 3
theorem mayw_iff {n w : Int} (h : mayw n w = true) : 0 ≤ mrk w ∧ mrk w ≤ 3 ∧ wide (mrk w) = w ∧ 0 ≤ n ∧ n < powOf (mrk w) := by
 unfold mayw at h
 simp only [Bool.and_eq_true, Bool.or_eq_true, decide_eq_true_eq] at h
 obtain ⟨hw, hn, hp⟩ := h
 refine ⟨?_, ?_, ?_, hn, hp⟩
 ·unfold mrk; split <;> (try split) <;> (try split) <;> omega
 ·unfold mrk; split <;> (try split) <;> (try split) <;> omega
 ·rcases hw with ((rfl | rfl) | rfl) | rfl <;> decide
def szOf (n : Int) : Int := if 0 ≤ n then if n < 64 then 1 else if n < 16384 then 2 else if n < 1073741824 then 4 else if n < 4611686018427387904 then 8 else 0 else 0
def may (n : Int) : Bool := decide (0 ≤ n) && decide (n ≤ 4611686018427387903)
theorem may_iff (n : Int) : may n = true ↔ 0 ≤ n ∧ n ≤ 4611686018427387903 := by simp [may]
theorem mayw_size (n : Int) : mayw n (szOf n) = may n := by
 have p0 : powOf 0 = 64 := rfl
 have p1 : powOf 1 = 16384 := rfl
 have p2 : powOf 2 = 1073741824 := rfl
 have p3 : powOf 3 = 4611686018427387904 := rfl
 unfold szOf
 rw [Bool.eq_iff_iff, may_iff]
 unfold mayw
 by_cases hn : 0 ≤ n
 ·rw [if_pos hn]
  by_cases a : n < 64
  ·rw [if_pos a]; simp [p0]; omega
  rw [if_neg a]
  by_cases a : n < 16384
  ·rw [if_pos a]; simp [p1]; omega
  rw [if_neg a]
  by_cases a : n < 1073741824
  ·rw [if_pos a]; simp [p2]; omega
  rw [if_neg a]
  by_cases a : n < 4611686018427387904
  ·rw [if_pos a]; simp [p3]; omega
  rw [if_neg a]; simp; omega
 ·rw [if_neg hn]; simp; omega
def putn (b : List Int) (n : Int) : List Int := putw b n (mrk (szOf n))
def num (n : Int) (l : List Int) : Int := l.foldl (fun n c => n * 256 + c) n
theorem num_bd (l : List Int) : ∀ (n M : Int), Bytes l → 0 ≤ n → n < M → 0 ≤ num n l ∧ num n l < M * 256 ^ l.length := by
 induction l with
 | nil => intro n M _ h0 h; simp [num]; omega
 | cons c l ih =>
  intro n M hb h0 h
  have hc := hb c (by simp)
  have := ih (n * 256 + c) (M * 256) (fun x hx => hb x (by simp [hx])) (by omega) (by omega)
  unfold num at this ⊢
  rw [List.foldl_cons, List.length_cons, Int.pow_succ]
  rw [show M * (256 ^ l.length * 256) = M * 256 * 256 ^ l.length from by rw [Int.mul_comm (256 ^ l.length) 256, Int.mul_assoc]]
  exact this
def widthOf (c : Int) : Int := if c / 64 = 0 then 1 else if c / 64 = 1 then 2 else if c / 64 = 2 then 4 else 8
theorem shl_width {c : Int} (h0 : 0 ≤ c) (h : c ≤ 255) : shl .i64 1 (c / 64) = widthOf c := by
 have : c / 64 = 0 ∨ c / 64 = 1 ∨ c / 64 = 2 ∨ c / 64 = 3 := by omega
 unfold widthOf
 rcases this with e | e | e | e <;> rw [e] <;> decide +kernel
theorem width_bd (c : Int) : 1 ≤ widthOf c ∧ widthOf c ≤ 8 := by
 unfold widthOf; split <;> (try split) <;> (try split) <;> omega
def get (b : List Int) (i : Int) : Int × Int × Int × Int :=
 if i < 0 ∨ i > b.length then (0, 0, 1, i)
 else if i = b.length then (0, 0, 3, b.length)
 else if (b.length : Int) - i < widthOf (rd b i) then (0, 0, 3, b.length)
 else (num (rd b i % 64) ((b.drop (i + 1).toNat).take (widthOf (rd b i) - 1).toNat), i + widthOf (rd b i), 0, 0)
theorem and63 {c : Int} (h0 : 0 ≤ c) (h : c ≤ 255) : wrap64 (Go.bits .and .u8 c 63) = c % 64 := by
 rw [u8_and63 c h0 (by omega), w64 _ (by omega)]
theorem pow256 (n : Nat) (h : n ≤ 6) : (256 : Int) ^ n ≤ 281474976710656 := by
 have : n = 0 ∨ n = 1 ∨ n = 2 ∨ n = 3 ∨ n = 4 ∨ n = 5 ∨ n = 6 := by omega
 rcases this with rfl | rfl | rfl | rfl | rfl | rfl | rfl <;> decide +kernel
theorem le_snoc (j : Nat) : ∀ v, le (j + 1) v = le j v ++ [v / 256 ^ j % 256] := by
 induction j with
 | zero => intro v; simp [le]
 | succ j ih =>
  intro v
  rw [le, ih (v / 256), le, List.cons_append]
  congr 3
  rw [Int.pow_succ, Int.mul_comm (256 ^ j) 256, Int.ediv_ediv_of_nonneg (by omega)]
theorem le_add (j : Nat) : ∀ v q, le j (v + 256 ^ j * q) = le j v := by
 induction j with
 | zero => intro v q; rfl
 | succ j ih =>
  intro v q
  have e : v + 256 ^ (j + 1) * q = v + 256 * (256 ^ j * q) := by rw [Int.pow_succ, Int.mul_comm (256 ^ j) 256, Int.mul_assoc]
  rw [e]
  generalize hx : 256 ^ j * q = x
  rw [le, le]
  congr 1
  ·omega
  ·rw [show (v + 256 * x) / 256 = v / 256 + x from by omega, ← hx, ih]
theorem le_mark (n : Int) {m : Int} (h0 : 0 ≤ m) (h : m ≤ 3) : le (wide m - 1).toNat (n + markOf m) = le (wide m - 1).toNat n := by
 rcases four h0 h with rfl | rfl | rfl | rfl
 ·rfl
 ·exact le_add 1 n 64
 ·exact le_add 3 n 128
 ·exact le_add 7 n (-64)
theorem split_mod (v p : Int) (hp : 0 < p) : v % (p * 256) = v / p % 256 * p + v % p := by
 have a := Int.mul_ediv_add_emod v p
 have b := Int.mul_ediv_add_emod (v / p) 256
 have r0 := Int.emod_nonneg v (show p ≠ 0 by omega)
 have r1 := Int.emod_lt_of_pos v hp
 have q0 : 0 ≤ v / p % 256 := by omega
 have q1 : v / p % 256 ≤ 255 := by omega
 generalize v % p = r at *
 generalize v / p = q at *
 generalize hd : q / 256 = d at *
 generalize q % 256 = c at *
 have e : v = (c * p + r) + p * 256 * d := by
  rw [← a, ← b, Int.mul_add, Int.mul_assoc, Int.mul_comm c p]
  omega
 have m0 : 0 ≤ c * p := Int.mul_nonneg q0 (by omega)
 have m1 : c * p ≤ 255 * p := Int.mul_le_mul_of_nonneg_right q1 (by omega)
 rw [e, Int.add_mul_emod_self_left, Int.emod_eq_of_lt (by omega) (by omega)]
theorem pow_pos256 (j : Nat) : (0 : Int) < 256 ^ j := Int.pow_pos (by omega)
theorem num_le (j : Nat) : ∀ v a, num a (le j v).reverse = a * 256 ^ j + v % 256 ^ j := by
 induction j with
 | zero => intro v a; simp [num, le, Int.emod_one]
 | succ j ih =>
  intro v a
  rw [le_snoc, List.reverse_append, List.reverse_singleton, List.singleton_append]
  show num (a * 256 + v / 256 ^ j % 256) (le j v).reverse = _
  rw [ih, Int.pow_succ, split_mod v _ (pow_pos256 j), Int.add_mul, Int.mul_assoc a, Int.mul_comm 256 (256 ^ j)]
  omega
theorem rd_mid (b r : List Int) (x : Int) : rd (b ++ x :: r) (b.length : Int) = x := by
 unfold rd
 rw [Int.toNat_natCast, List.getD_eq_getElem?_getD, List.getElem?_append_right (Nat.le_refl _)]
 simp
def topOf (n m : Int) : Int := (n + markOf m) / 256 ^ (wide m - 1).toNat % 256
theorem putw_split (b : List Int) (n : Int) {m : Int} (h0 : 0 ≤ m) (h : m ≤ 3) : putw b n m = b ++ topOf n m :: (le (wide m - 1).toNat n).reverse := by
 have hw := wide_bd h0 h
 unfold putw
 rw [show (wide m).toNat = (wide m - 1).toNat + 1 from by omega, le_snoc, le_mark n h0 h]
 simp [topOf]
theorem top_facts (n : Int) {m : Int} (h0 : 0 ≤ m) (h : m ≤ 3) (hn : 0 ≤ n) (hn' : n < powOf m) :
  widthOf (topOf n m) = wide m ∧ topOf n m % 64 = n / 256 ^ (wide m - 1).toNat ∧ 0 ≤ topOf n m ∧ topOf n m ≤ 255 := by
 rcases four h0 h with rfl | rfl | rfl | rfl
 ·have e : n < 64 := hn'
  have t : topOf n 0 = n := by show (n + 0) / 1 % 256 = n; omega
  rw [t]
  refine ⟨?_, ?_, by omega, by omega⟩
  ·unfold widthOf; rw [if_pos (by omega)]; rfl
  ·show n % 64 = n / 1; omega
 ·have e : n < 16384 := hn'
  have t : topOf n 1 = 64 + n / 256 := by show (n + 16384) / 256 % 256 = _; omega
  rw [t]
  refine ⟨?_, ?_, by omega, by omega⟩
  ·unfold widthOf; rw [if_neg (by omega), if_pos (by omega)]; rfl
  ·show (64 + n / 256) % 64 = n / 256; omega
 ·have e : n < 1073741824 := hn'
  have t : topOf n 2 = 128 + n / 16777216 := by show (n + 2147483648) / 16777216 % 256 = _; omega
  rw [t]
  refine ⟨?_, ?_, by omega, by omega⟩
  ·unfold widthOf; rw [if_neg (by omega), if_neg (by omega), if_pos (by omega)]; rfl
  ·show (128 + n / 16777216) % 64 = n / 16777216; omega
 ·have e : n < 4611686018427387904 := hn'
  have t : topOf n 3 = 192 + n / 72057594037927936 := by show (n + -4611686018427387904) / 72057594037927936 % 256 = _; omega
  rw [t]
  refine ⟨?_, ?_, by omega, by omega⟩
  ·unfold widthOf; rw [if_neg (by omega), if_neg (by omega), if_neg (by omega)]; rfl
  ·show (192 + n / 72057594037927936) % 64 = n / 72057594037927936; omega
theorem putw_len (b : List Int) (n m : Int) (h0 : 0 ≤ m) (h : m ≤ 3) : ((putw b n m).length : Int) = b.length + wide m := by
 have hw := wide_bd h0 h
 unfold putw
 rw [List.length_append, List.length_reverse, le_len]
 omega
theorem get_putw (b r : List Int) (n : Int) {m : Int} (h0 : 0 ≤ m) (h : m ≤ 3) (hn : 0 ≤ n) (hn' : n < powOf m) : get (putw b n m ++ r) b.length = (n, b.length + wide m, 0, 0) := by
 have hw := wide_bd h0 h
 obtain ⟨t1, t2, t3, t4⟩ := top_facts n h0 h hn hn'
 have hl := putw_len b n m h0 h
 have hL : (((putw b n m ++ r).length : Nat) : Int) = b.length + wide m + r.length := by rw [List.length_append]; omega
 have hrd : rd (putw b n m ++ r) b.length = topOf n m := by
  rw [putw_split b n h0 h, List.append_assoc, List.cons_append]
  exact rd_mid _ _ _
 unfold get
 rw [hrd, t1, if_neg (by omega), if_neg (by omega), if_neg (by omega), t2]
 have hd : ((putw b n m ++ r).drop ((b.length : Int) + 1).toNat).take (wide m - 1).toNat = (le (wide m - 1).toNat n).reverse := by
  rw [putw_split b n h0 h, show ((b.length : Int) + 1).toNat = b.length + 1 from by omega, List.append_assoc, List.cons_append, ← List.drop_drop, List.drop_left, List.drop_succ_cons, List.drop_zero]
  rw [List.take_append_of_le_length (by rw [List.length_reverse, le_len]; exact Nat.le_refl _), List.take_of_length_le (by rw [List.length_reverse, le_len]; exact Nat.le_refl _)]
 rw [hd, num_le, Int.mul_comm, Int.mul_ediv_add_emod]
theorem may_mark {n : Int} (h : may n = true) : 0 ≤ mrk (szOf n) ∧ mrk (szOf n) ≤ 3 ∧ wide (mrk (szOf n)) = szOf n ∧ 0 ≤ n ∧ n < powOf (mrk (szOf n)) :=
 mayw_iff (by rw [mayw_size]; exact h)
end Go.Proofs.Ytpdchohbmmfemaa.Plain
