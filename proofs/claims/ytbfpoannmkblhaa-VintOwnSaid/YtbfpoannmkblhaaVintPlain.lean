/- What vint's functions, and the reference's, come to, in plain words. -/
import Derived.Test.YtbfpoannmkblhaaLists
import Derived.Test.YtbfpoannmkblhaaPAllx2
import Derived.Test.YtbfpoannmkblhaaPAllx5
import Derived.Test.YtbfpoannmkblhaaPAllx7
import Derived.Test.YtbfpoannmkblhaaPAllx3
import Derived.Test.YtbfpoannmkblhaaPAllx4
import Derived.Test.YtbfpoannmkblhaaPAllx8
import Derived.Test.YtbfpoannmkblhaaPAllx12
import Derived.Test.YtbfpoannmkblhaaPAllx13
import Derived.Test.YtbfpoannmkblhaaPAllx17
namespace Go.Proofs.Ytbfpoannmkblhaa.Plain
open Go.RowKit Go.Proofs.Ytbfpoannmkblhaa.PAll Go.Proofs.YtbfpoannmkblhaaW.PrintWords Go.Proofs.YtbfpoannmkblhaaW.PrintLast Go.Proofs.YtbfpoannmkblhaaW.PrintMore
set_option linter.unusedVariables false
set_option linter.unusedSimpArgs false

/-! ### the library: Index, Reverse, Concat -/
theorem index_l0 (l : List Int) (x : Int) (hm : l.length ≤ 1000000) (d : Nat) : ∀ (k : Nat) (i : Int), 0 ≤ i → i ≤ l.length → (l.length : Int) - i = d → d < k →
    slices_Index_int_int.l0 k l x l.length i = some (match (l.drop i.toNat).findIdx? (· == x) with | some j => i + j | none => -1) := by
  induction d with
  | zero =>
    intro k i h0 h1 hd hk
    obtain ⟨k, rfl⟩ : ∃ m, k = m + 1 := ⟨k - 1, by omega⟩
    simp only [slices_Index_int_int.l0]
    rw [if_neg (by omega), show i.toNat = l.length from by omega, List.drop_length]; rfl
  | succ d ih =>
    intro k i h0 h1 hd hk
    obtain ⟨k, rfl⟩ : ∃ m, k = m + 1 := ⟨k - 1, by omega⟩
    simp only [slices_Index_int_int.l0]
    rw [if_pos (by omega), if_pos h0, if_pos (by omega), rd_drop l i h0 (by omega), List.findIdx?_cons]
    by_cases e : x = rd l i
    · rw [if_pos e, ← e]; simp
    · rw [if_neg e, w64 _ (by omega), ih k (i + 1) (by omega) (by omega) (by omega) (by omega)]
      have : (rd l i == x) = false := by rw [beq_eq_false_iff_ne]; exact fun h => e h.symm
      rw [this]
      simp only [Bool.false_eq_true, if_false]
      cases h : (l.drop (i + 1).toNat).findIdx? (· == x) with
      | none => simp
      | some j =>
        show some (i + 1 + (j : Int)) = some (i + ((j + 1 : Nat) : Int))
        congr 1
        omega

theorem rev_l0 (d : Nat) : ∀ (k : Nat) (a m c : List Int), m.length = d → a.length + m.length + c.length ≤ 9223372036854775000 → d < k →
    slices_Reverse_byte_byte.l0 k (a ++ m ++ c) a.length ((a.length : Int) + m.length - 1) = some (a ++ m.reverse ++ c) := by
  induction d using Nat.strongRecOn with
  | _ d ih =>
    intro k a m c hm hl hk
    obtain ⟨k, rfl⟩ : ∃ n, k = n + 1 := ⟨k - 1, by omega⟩
    simp only [slices_Reverse_byte_byte.l0]
    match m, hm with
    | [], hm => rw [if_neg (by simp; omega)]; simp
    | [x], hm => rw [if_neg (by simp)]; simp
    | x :: y :: m, hm =>
      obtain ⟨m', z, e⟩ : ∃ m' z, y :: m = m' ++ [z] := ⟨(y :: m).dropLast, (y :: m).getLast (by simp), (List.dropLast_concat_getLast (by simp)).symm⟩
      rw [e]
      have hlen : (x :: (m' ++ [z])).length = m'.length + 2 := by simp
      have hlen' : (y :: m).length = m'.length + 1 := by rw [e]; simp
      simp only [List.length_cons] at hm hlen' hl
      rw [hlen]
      have hL : (a ++ x :: (m' ++ [z]) ++ c).length = a.length + m'.length + 2 + c.length := by simp; omega
      rw [if_pos (by omega), if_pos (by omega), if_pos (by rw [hL]; omega), if_pos (by omega), if_pos (by rw [hL]; omega)]
      have r1 : rd (a ++ x :: (m' ++ [z]) ++ c) ((a.length : Int) + (m'.length + 2 : Nat) - 1) = z := by
        unfold rd
        rw [show ((a.length : Int) + (m'.length + 2 : Nat) - 1).toNat = a.length + m'.length + 1 from by omega, List.getD_eq_getElem?_getD]
        rw [show a ++ x :: (m' ++ [z]) ++ c = (a ++ x :: m') ++ z :: c from by simp, List.getElem?_append_right (by simp; omega)]
        simp
        rw [show a.length + m'.length + 1 - (a.length + (m'.length + 1)) = 0 from by omega]; rfl
      have r2 : rd (a ++ x :: (m' ++ [z]) ++ c) (a.length : Int) = x := by
        unfold rd
        rw [Int.toNat_natCast, List.getD_eq_getElem?_getD, List.append_assoc, List.getElem?_append_right (Nat.le_refl _)]
        simp
      rw [r1, r2, w64 _ (by omega), w64 _ (by omega)]
      have s1 : ((a ++ x :: (m' ++ [z]) ++ c).set (a.length : Int).toNat z).set ((a.length : Int) + (m'.length + 2 : Nat) - 1).toNat x = (a ++ [z]) ++ m' ++ (x :: c) := by
        rw [Int.toNat_natCast, show ((a.length : Int) + (m'.length + 2 : Nat) - 1).toNat = a.length + (m'.length + 1) from by omega]
        rw [List.append_assoc, List.set_append_right _ _ (Nat.le_refl _), Nat.sub_self, List.cons_append, List.set_cons_zero, List.set_append_right _ _ (by omega)]
        rw [show a.length + (m'.length + 1) - a.length = m'.length + 1 from by omega, List.set_cons_succ, List.append_assoc, List.set_append_right _ _ (Nat.le_refl _), Nat.sub_self]
        simp
      rw [s1, show ((a.length : Int) + 1) = ((a ++ [z]).length : Int) from by simp, show (a.length : Int) + (m'.length + 2 : Nat) - 1 - 1 = ((a ++ [z]).length : Int) + m'.length - 1 from by simp; omega]
      rw [ih m'.length (by omega) k (a ++ [z]) m' (x :: c) rfl (by simp; omega) (by omega)]
      simp

theorem reverse_f (l : List Int) (hl : l.length ≤ 9223372036854775000) (k : Nat) (hk : l.length < k) : slices_Reverse_byte_byte.f k l = some l.reverse := by
  unfold slices_Reverse_byte_byte.f
  have := rev_l0 l.length k [] l [] rfl (by simpa using hl) hk
  simp at this
  rw [w64 _ (by omega)]
  exact this

/-- how many elements lists have together -/
def total (ls : List (List Int)) : Nat := ls.flatten.length
theorem concat_l1 (ls : List (List Int)) (hn : ls.length ≤ 1000000000) (d : Nat) : ∀ (k : Nat) (acc : List Int) (i : Int), 0 ≤ i → i ≤ ls.length → (ls.length : Int) - i = d → d < k → acc.length + (ls.drop i.toNat).flatten.length < 140737488355328 →
    slices_Concat_byte_byte.l1 k acc ls ls.length i = some (acc ++ (ls.drop i.toNat).flatten) := by
  induction d with
  | zero =>
    intro k acc i h0 h1 hd hk ht
    obtain ⟨k, rfl⟩ : ∃ m, k = m + 1 := ⟨k - 1, by omega⟩
    simp only [slices_Concat_byte_byte.l1]
    rw [if_neg (by omega), show i.toNat = ls.length from by omega, List.drop_length]; simp
  | succ d ih =>
    intro k acc i h0 h1 hd hk ht
    obtain ⟨k, rfl⟩ : ∃ m, k = m + 1 := ⟨k - 1, by omega⟩
    have hi : i.toNat < ls.length := by omega
    have e : ls.drop i.toNat = rd_L2 ls i :: ls.drop (i + 1).toNat := by
      rw [show (i + 1).toNat = i.toNat + 1 from by omega, List.drop_eq_getElem_cons hi]
      simp [rd_L2, hi]
    rw [e, List.flatten_cons, List.length_append] at ht
    simp only [slices_Concat_byte_byte.l1]
    rw [if_pos (by omega), if_pos h0, if_pos (by omega), if_pos (by omega), w64 _ (by omega), ih k _ (i + 1) (by omega) (by omega) (by omega) (by omega) (by rw [List.length_append]; omega), e]
    simp
theorem concat_l0 (ls : List (List Int)) (hn : ls.length ≤ 1000000000) (ht : total ls < 140737488355328) (d : Nat) : ∀ (k : Nat) (n i : Int), 0 ≤ i → i ≤ ls.length → (ls.length : Int) - i = d → d + ls.length + 1 < k → n + (ls.drop i.toNat).flatten.length = total ls → 0 ≤ n →
    slices_Concat_byte_byte.l0 k ls n ls ls.length i = some ls.flatten := by
  induction d with
  | zero =>
    intro k n i h0 h1 hd hk hs hn0
    obtain ⟨k, rfl⟩ : ∃ m, k = m + 1 := ⟨k - 1, by omega⟩
    simp only [slices_Concat_byte_byte.l0]
    rw [show i.toNat = ls.length from by omega, List.drop_length] at hs
    simp only [List.flatten_nil, List.length_nil] at hs
    rw [if_neg (by omega)]
    unfold slices_Grow_byte_byte.f
    rw [if_pos hn0, if_pos (by omega)]
    simp only [Option.bind_some]
    rw [concat_l1 ls hn ls.length k [] 0 (by omega) (by omega) (by omega) (by omega) (by simpa [total] using ht)]
    simp
  | succ d ih =>
    intro k n i h0 h1 hd hk hs hn0
    obtain ⟨k, rfl⟩ : ∃ m, k = m + 1 := ⟨k - 1, by omega⟩
    have hi : i.toNat < ls.length := by omega
    have e : ls.drop i.toNat = rd_L2 ls i :: ls.drop (i + 1).toNat := by
      rw [show (i + 1).toNat = i.toNat + 1 from by omega, List.drop_eq_getElem_cons hi]
      simp [rd_L2, hi]
    rw [e, List.flatten_cons, List.length_append] at hs
    simp only [slices_Concat_byte_byte.l0]
    rw [if_pos (by omega), if_pos h0, if_pos (by omega), w64 (n + _) (by omega), if_neg (by omega), w64 (i + 1) (by omega)]
    exact ih k _ (i + 1) (by omega) (by omega) (by omega) (by omega) (by omega) (by omega)
theorem concat_f (ls : List (List Int)) (hn : ls.length ≤ 1000000000) (ht : ls.flatten.length < 140737488355328) (k : Nat) (hk : 2 * ls.length + 1 < k) : slices_Concat_byte_byte.f k ls = some ls.flatten := by
  unfold slices_Concat_byte_byte.f
  exact concat_l0 ls hn ht ls.length k 0 0 (by omega) (by omega) (by omega) (by omega) (by simp [total]) (by omega)

/-! ### numbers as bytes, the least first -/
def le : Nat → Int → List Int
  | 0, _ => []
  | w + 1, v => (v % 256) :: le w (v / 256)
theorem le_len (w : Nat) : ∀ v, (le w v).length = w := by
  induction w with
  | zero => intro v; rfl
  | succ w ih => intro v; simp [le, ih]
theorem le_bytes (w : Nat) : ∀ v, Bytes (le w v) := by
  induction w with
  | zero => intro v x hx; cases hx
  | succ w ih =>
    intro v x hx
    simp only [le, List.mem_cons] at hx
    rcases hx with rfl | hx
    · omega
    · exact ih _ x hx

/-- how many bits there are, by the mark -/
def bitsOf : Int → Int := fun m => if m = 0 then 6 else if m = 1 then 14 else if m = 2 then 30 else 62
def powOf : Int → Int := fun m => if m = 0 then 64 else if m = 1 then 16384 else if m = 2 then 1073741824 else 4611686018427387904
def wide : Int → Int := fun m => if m = 0 then 1 else if m = 1 then 2 else if m = 2 then 4 else 8
theorem four {m : Int} (h0 : 0 ≤ m) (h : m ≤ 3) : m = 0 ∨ m = 1 ∨ m = 2 ∨ m = 3 := by omega
theorem bits_f {m : Int} (h0 : 0 ≤ m) (h : m ≤ 3) : vint_bits.f m = some (bitsOf m) := by
  rcases four h0 h with rfl | rfl | rfl | rfl <;> decide +kernel
theorem fits_f (n : Int) {m : Int} (h0 : 0 ≤ m) (h : m ≤ 3) : vint_fits.f n m = some (decide (0 ≤ n) && decide (n < powOf m)) := by
  unfold vint_fits.f
  rw [bits_f h0 h]
  by_cases c : n ≥ 0
  · rw [if_pos c, decide_eq_true (by omega)]
    rcases four h0 h with rfl | rfl | rfl | rfl <;> rfl
  · rw [if_neg c, decide_eq_false (by omega)]; rfl

theorem put_l0 (b : List Int) (hb : b.length ≤ 140737488351232) (W : Nat) (hW : W ≤ 8) (d : Nat) : ∀ (k : Nat) (v : Int) (acc : List Int) (i : Int), 0 ≤ i → i ≤ W → (W : Int) - i = d → (acc.length : Int) = i → d + 20 < k → 
    vint_PutWide.l0 k b v acc W i = some (b ++ (acc ++ le d v).reverse, 0) := by
  induction d with
  | zero =>
    intro k v acc i h0 h1 hd ha hk
    obtain ⟨k, rfl⟩ : ∃ m, k = m + 1 := ⟨k - 1, by omega⟩
    simp only [vint_PutWide.l0]
    rw [if_neg (by omega), reverse_f acc (by omega) k (by omega)]
    simp only [Option.bind_some]
    rw [concat_f [b, acc.reverse] (by simp) (by simp; omega) k (by simp; omega)]
    simp [le]
  | succ d ih =>
    intro k v acc i h0 h1 hd ha hk
    obtain ⟨k, rfl⟩ : ∃ m, k = m + 1 := ⟨k - 1, by omega⟩
    simp only [vint_PutWide.l0]
    rw [if_pos (by omega), if_pos (by omega), w64 _ (by omega), ih k _ _ (i + 1) (by omega) (by omega) (by omega) (by simp; omega) (by omega)]
    simp [le]

/-- what the mark adds, in 64 bits -/
def markOf : Int → Int := fun m => if m = 0 then 0 else if m = 1 then 16384 else if m = 2 then 2147483648 else -4611686018427387904
/-- the bytes of a number in a width, behind others: its mark in the two highest bits -/
def putw (b : List Int) (n m : Int) : List Int := b ++ (le (wide m).toNat (n + markOf m)).reverse
theorem or_high (n : Int) (h0 : 0 ≤ n) (h : n < 4611686018427387904) : Go.bits .or .i64 (-4611686018427387904) n = n - 4611686018427387904 := by
  obtain ⟨a, rfl⟩ := Int.eq_ofNat_of_zero_le h0
  show IntKind.i64.wrap ((BitVec.ofInt 64 (-4611686018427387904) ||| BitVec.ofInt 64 (a : Int)).toNat : Int) = _
  rw [show BitVec.ofInt 64 (-4611686018427387904) = BitVec.ofNat 64 13835058055282163712 from by decide +kernel, BitVec.ofInt_natCast, BitVec.toNat_or, BitVec.toNat_ofNat, BitVec.toNat_ofNat, Nat.mod_eq_of_lt (by omega), Nat.mod_eq_of_lt (by omega), nat_join 62 _ a (by omega) (by omega), wrap_i64]
  unfold wrap64
  omega
theorem or_mark (n : Int) {m : Int} (h0 : 0 ≤ m) (h : m ≤ 3) (hn : 0 ≤ n) (hn' : n < powOf m) : Go.bits .or .i64 n (shl .i64 m (bitsOf m)) = n + markOf m := by
  rw [or_comm]
  rcases four h0 h with rfl | rfl | rfl | rfl
  · have e : n < 64 := hn'
    rw [show shl .i64 0 (bitsOf 0) = 0 from by decide +kernel, or_join 6 0 n (by omega) (by omega) (by omega) hn e (by omega)]
    simp [markOf]
  · have e : n < 16384 := hn'
    rw [show shl .i64 1 (bitsOf 1) = 16384 from by decide +kernel, or_join 14 16384 n (by omega) (by omega) (by omega) hn e (by omega)]
    simp [markOf]; omega
  · have e : n < 1073741824 := hn'
    rw [show shl .i64 2 (bitsOf 2) = 2147483648 from by decide +kernel, or_join 30 2147483648 n (by omega) (by omega) (by omega) hn e (by omega)]
    simp [markOf]; omega
  · have e : n < 4611686018427387904 := hn'
    rw [show shl .i64 3 (bitsOf 3) = -4611686018427387904 from by decide +kernel, or_high n hn e]
    simp [markOf]; omega
theorem wide_bd {m : Int} (h0 : 0 ≤ m) (h : m ≤ 3) : 1 ≤ wide m ∧ wide m ≤ 8 := by rcases four h0 h with rfl | rfl | rfl | rfl <;> decide
theorem index_f (x : Int) (k : Nat) (hk : 4 < k) : slices_Index_int_int.f k [1, 2, 4, 8] x = some (if x = 1 then 0 else if x = 2 then 1 else if x = 4 then 2 else if x = 8 then 3 else -1) := by
  unfold slices_Index_int_int.f
  rw [index_l0 [1, 2, 4, 8] x (by simp) 4 k 0 (by omega) (by simp) (by simp) (by omega)]
  simp only [Int.toNat_zero, List.drop_zero, List.findIdx?_cons, List.findIdx?_nil]
  by_cases e1 : x = 1
  · subst e1; rfl
  by_cases e2 : x = 2
  · subst e2; rfl
  by_cases e3 : x = 4
  · subst e3; rfl
  by_cases e4 : x = 8
  · subst e4; rfl
  have f1 : ((1 : Int) == x) = false := by rw [beq_eq_false_iff_ne]; omega
  have f2 : ((2 : Int) == x) = false := by rw [beq_eq_false_iff_ne]; omega
  have f3 : ((4 : Int) == x) = false := by rw [beq_eq_false_iff_ne]; omega
  have f4 : ((8 : Int) == x) = false := by rw [beq_eq_false_iff_ne]; omega
  rw [f1, f2, f3, f4, if_neg e1, if_neg e2, if_neg e3, if_neg e4]
  rfl
theorem putwide_yes (b : List Int) (hb : b.length ≤ 140737488351232) (n m : Int) (h0 : 0 ≤ m) (h : m ≤ 3) (hn : 0 ≤ n) (hn' : n < powOf m) (k : Nat) (hk : 40 < k) :
    vint_PutWide.f k b n (wide m) = some (putw b n m, 0) := by
  unfold vint_PutWide.f
  rw [index_f _ k (by omega)]
  have e : (if wide m = 1 then (0 : Int) else if wide m = 2 then 1 else if wide m = 4 then 2 else if wide m = 8 then 3 else -1) = m := by
    rcases four h0 h with rfl | rfl | rfl | rfl <;> decide
  rw [e]
  simp only [Option.bind_some]
  rw [if_neg (by omega), fits_f n h0 h, decide_eq_true hn, decide_eq_true hn']
  simp only [Option.bind_some, Bool.and_self, Bool.not_true]
  obtain ⟨k, rfl⟩ : ∃ j, k = j + 1 := ⟨k - 1, by omega⟩
  rw [vint_PutWide.j0]
  rw [if_neg (by decide), bits_f h0 h]
  simp only [Option.bind_some]
  have hb' : 0 ≤ bitsOf m := by rcases four h0 h with rfl | rfl | rfl | rfl <;> decide
  have hw := wide_bd h0 h
  rw [if_pos hb', or_mark n h0 h hn hn']
  have := put_l0 b hb (wide m).toNat (by omega) (wide m).toNat k (n + markOf m) [] 0 (by omega) (by omega) (by omega) (by simp) (by omega)
  rw [show (((wide m).toNat : Nat) : Int) = wide m from by omega] at this
  rw [this]
  simp [putw]
/-- is it a number that has room in so many bytes? -/
def mayw (n w : Int) : Bool := (decide (w = 1) || decide (w = 2) || decide (w = 4) || decide (w = 8)) && (decide (0 ≤ n) && decide (n < powOf (if w = 1 then 0 else if w = 2 then 1 else if w = 4 then 2 else 3)))
theorem putwide_no (b : List Int) (n w : Int) (h : mayw n w = false) (k : Nat) (hk : 40 < k) : vint_PutWide.f k b n w = some ([], 1) := by
  unfold vint_PutWide.f
  rw [index_f w k (by omega)]
  simp only [Option.bind_some]
  obtain ⟨k, rfl⟩ : ∃ j, k = j + 1 := ⟨k - 1, by omega⟩
  have fin : ∀ j, vint_PutWide.j0 (k + 1) b n w j true = some ([], 1) := fun j => by rw [vint_PutWide.j0, if_pos rfl]
  have key : ∀ m : Int, 0 ≤ m → m ≤ 3 → (decide (0 ≤ n) && decide (n < powOf m)) = false → (if m < 0 then vint_PutWide.j0 (k + 1) b n w m true else (vint_fits.f n m).bind fun t119 => vint_PutWide.j0 (k + 1) b n w m (!t119)) = some ([], 1) := by
    intro m h0 h3 hf
    rw [if_neg (by omega), fits_f n h0 h3, hf]
    exact fin m
  unfold mayw at h
  by_cases e1 : w = 1
  · subst e1; exact key 0 (by omega) (by omega) (by simpa using h)
  by_cases e2 : w = 2
  · subst e2; exact key 1 (by omega) (by omega) (by simpa using h)
  by_cases e3 : w = 4
  · subst e3; exact key 2 (by omega) (by omega) (by simpa using h)
  by_cases e4 : w = 8
  · subst e4; exact key 3 (by omega) (by omega) (by simpa using h)
  rw [if_neg e1, if_neg e2, if_neg e3, if_neg e4, if_pos (by omega)]
  exact fin _
/-- the mark of a width -/
def mrk (w : Int) : Int := if w = 1 then 0 else if w = 2 then 1 else if w = 4 then 2 else 3
theorem mayw_iff {n w : Int} (h : mayw n w = true) : 0 ≤ mrk w ∧ mrk w ≤ 3 ∧ wide (mrk w) = w ∧ 0 ≤ n ∧ n < powOf (mrk w) := by
  unfold mayw at h
  simp only [Bool.and_eq_true, Bool.or_eq_true, decide_eq_true_eq] at h
  obtain ⟨hw, hn, hp⟩ := h
  refine ⟨?_, ?_, ?_, hn, hp⟩
  · unfold mrk; split <;> (try split) <;> (try split) <;> omega
  · unfold mrk; split <;> (try split) <;> (try split) <;> omega
  · rcases hw with ((rfl | rfl) | rfl) | rfl <;> decide
theorem putwide_f (b : List Int) (hb : b.length ≤ 140737488351232) (n w : Int) (k : Nat) (hk : 40 < k) : vint_PutWide.f k b n w = some (if mayw n w = true then (putw b n (mrk w), 0) else ([], 1)) := by
  by_cases h : mayw n w = true
  · rw [if_pos h]
    obtain ⟨h0, h3, hw, hn, hp⟩ := mayw_iff h
    have := putwide_yes b hb n (mrk w) h0 h3 hn hp k hk
    rw [hw] at this
    exact this
  · rw [if_neg h]; exact putwide_no b n w (by simpa using h) k hk

/-- the least width -/
def szOf (n : Int) : Int := if 0 ≤ n then if n < 64 then 1 else if n < 16384 then 2 else if n < 1073741824 then 4 else if n < 4611686018427387904 then 8 else 0 else 0
theorem size_step (n : Int) (k : Nat) {m : Int} (h0 : 0 ≤ m) (h : m ≤ 3) : vint_Size.l0 (k + 1) n m = if 0 ≤ n ∧ n < powOf m then some (wide m) else vint_Size.l0 k n (m + 1) := by
  have hw : shl .i64 1 m = wide m := by rcases four h0 h with rfl | rfl | rfl | rfl <;> decide +kernel
  rw [vint_Size.l0, if_pos (by omega), fits_f n h0 h]
  simp only [Option.bind_some]
  rw [if_pos h0, hw, w64 _ (by omega)]
  by_cases c : 0 ≤ n ∧ n < powOf m
  · rw [if_pos c, decide_eq_true c.1, decide_eq_true c.2]; rfl
  · rw [if_neg c, if_neg (by simpa using c)]
theorem size_f (n : Int) (k : Nat) (hk : 10 < k) : vint_Size.f k n = some (szOf n) := by
  obtain ⟨k, rfl⟩ : ∃ j, k = j + 1 + 1 + 1 + 1 + 1 := ⟨k - 5, by omega⟩
  unfold vint_Size.f
  have e4 : vint_Size.l0 (k + 1) n (0 + 1 + 1 + 1 + 1) = some 0 := by rw [vint_Size.l0, if_neg (by omega)]
  rw [size_step n _ (by omega) (by omega), size_step n _ (by omega) (by omega), size_step n _ (by omega) (by omega), size_step n _ (by omega) (by omega), e4]
  have p0 : powOf 0 = 64 := rfl
  have p1 : powOf (0 + 1) = 16384 := rfl
  have p2 : powOf (0 + 1 + 1) = 1073741824 := rfl
  have p3 : powOf (0 + 1 + 1 + 1) = 4611686018427387904 := rfl
  have w0 : wide 0 = 1 := rfl
  have w1 : wide (0 + 1) = 2 := rfl
  have w2 : wide (0 + 1 + 1) = 4 := rfl
  have w3 : wide (0 + 1 + 1 + 1) = 8 := rfl
  rw [p0, p1, p2, p3, w0, w1, w2, w3]
  unfold szOf
  by_cases hn : 0 ≤ n
  · rw [if_pos hn]
    by_cases a : n < 64
    · rw [if_pos a, if_pos ⟨hn, a⟩]
    rw [if_neg a, if_neg (by omega)]
    by_cases a : n < 16384
    · rw [if_pos a, if_pos ⟨hn, a⟩]
    rw [if_neg a, if_neg (by omega)]
    by_cases a : n < 1073741824
    · rw [if_pos a, if_pos ⟨hn, a⟩]
    rw [if_neg a, if_neg (by omega)]
    by_cases a : n < 4611686018427387904
    · rw [if_pos a, if_pos ⟨hn, a⟩]
    rw [if_neg a, if_neg (by omega)]
  · rw [if_neg hn, if_neg (by omega), if_neg (by omega), if_neg (by omega), if_neg (by omega)]
/-- may a number be put? -/
def may (n : Int) : Bool := decide (0 ≤ n) && decide (n ≤ 4611686018427387903)
theorem may_iff (n : Int) : may n = true ↔ 0 ≤ n ∧ n ≤ 4611686018427387903 := by simp [may]
theorem mayw_size (n : Int) : mayw n (szOf n) = may n := by
  have p0 : powOf 0 = 64 := rfl
  have p1 : powOf 1 = 16384 := rfl
  have p2 : powOf 2 = 1073741824 := rfl
  have p3 : powOf 3 = 4611686018427387904 := rfl
  unfold szOf
  rw [Bool.eq_iff_iff, may_iff]
  unfold mayw
  by_cases hn : 0 ≤ n
  · rw [if_pos hn]
    by_cases a : n < 64
    · rw [if_pos a]; simp [p0]; omega
    rw [if_neg a]
    by_cases a : n < 16384
    · rw [if_pos a]; simp [p1]; omega
    rw [if_neg a]
    by_cases a : n < 1073741824
    · rw [if_pos a]; simp [p2]; omega
    rw [if_neg a]
    by_cases a : n < 4611686018427387904
    · rw [if_pos a]; simp [p3]; omega
    rw [if_neg a]; simp; omega
  · rw [if_neg hn]; simp; omega
def putn (b : List Int) (n : Int) : List Int := putw b n (mrk (szOf n))
theorem put_f (b : List Int) (hb : b.length ≤ 140737488351232) (n : Int) (k : Nat) (hk : 40 < k) : vint_Put.f k b n = some (if may n = true then (putn b n, 0) else ([], 1)) := by
  unfold vint_Put.f
  rw [size_f n k (by omega)]
  simp only [Option.bind_some]
  rw [putwide_f b hb n _ k hk, mayw_size]
  rfl

/-! ### Get -/
/-- the number of bytes, the highest first, behind one -/
def num (n : Int) (l : List Int) : Int := l.foldl (fun n c => n * 256 + c) n
theorem num_bd (l : List Int) : ∀ (n M : Int), Bytes l → 0 ≤ n → n < M → 0 ≤ num n l ∧ num n l < M * 256 ^ l.length := by
  induction l with
  | nil => intro n M _ h0 h; simp [num]; omega
  | cons c l ih =>
    intro n M hb h0 h
    have hc := hb c (by simp)
    have := ih (n * 256 + c) (M * 256) (fun x hx => hb x (by simp [hx])) (by omega) (by omega)
    unfold num at this ⊢
    rw [List.foldl_cons, List.length_cons, Int.pow_succ]
    rw [show M * (256 ^ l.length * 256) = M * 256 * 256 ^ l.length from by rw [Int.mul_comm (256 ^ l.length) 256, Int.mul_assoc]]
    exact this
/-- the width that a byte tells -/
def widthOf (c : Int) : Int := if c / 64 = 0 then 1 else if c / 64 = 1 then 2 else if c / 64 = 2 then 4 else 8
theorem shl_width {c : Int} (h0 : 0 ≤ c) (h : c ≤ 255) : shl .i64 1 (c / 64) = widthOf c := by
  have : c / 64 = 0 ∨ c / 64 = 1 ∨ c / 64 = 2 ∨ c / 64 = 3 := by omega
  unfold widthOf
  rcases this with e | e | e | e <;> rw [e] <;> decide +kernel
theorem width_bd (c : Int) : 1 ≤ widthOf c ∧ widthOf c ≤ 8 := by
  unfold widthOf; split <;> (try split) <;> (try split) <;> omega
/-- what Get answers -/
def get (b : List Int) (i : Int) : Int × Int × Int × Int :=
  if i < 0 ∨ i > b.length then (0, 0, 1, i)
  else if i = b.length then (0, 0, 3, b.length)
  else if (b.length : Int) - i < widthOf (rd b i) then (0, 0, 3, b.length)
  else (num (rd b i % 64) ((b.drop (i + 1).toNat).take (widthOf (rd b i) - 1).toNat), i + widthOf (rd b i), 0, 0)

theorem and63 {c : Int} (h0 : 0 ≤ c) (h : c ≤ 255) : wrap64 (Go.bits .and .u8 c 63) = c % 64 := by
  rw [u8_and63 c h0 (by omega), w64 _ (by omega)]
theorem pow256 (n : Nat) (h : n ≤ 6) : (256 : Int) ^ n ≤ 281474976710656 := by
  have : n = 0 ∨ n = 1 ∨ n = 2 ∨ n = 3 ∨ n = 4 ∨ n = 5 ∨ n = 6 := by omega
  rcases this with rfl | rfl | rfl | rfl | rfl | rfl | rfl <;> decide +kernel
theorem get_l0 (at_ w : Int) (l : List Int) (hl : Bytes l) (hm : l.length ≤ 7) (d : Nat) : ∀ (k : Nat) (n i : Int), 0 ≤ i → i ≤ l.length → (l.length : Int) - i = d → d < k → 0 ≤ n → n < 64 * 256 ^ i.toNat →
    vint_Get.l0 k at_ w n l l.length i = some (num n (l.drop i.toNat), wrap64 (at_ + w), 0, 0) := by
  induction d with
  | zero =>
    intro k n i h0 h1 hd hk hn hn'
    obtain ⟨k, rfl⟩ : ∃ m, k = m + 1 := ⟨k - 1, by omega⟩
    simp only [vint_Get.l0]
    rw [if_neg (by omega), show i.toNat = l.length from by omega, List.drop_length]; rfl
  | succ d ih =>
    intro k n i h0 h1 hd hk hn hn'
    obtain ⟨k, rfl⟩ : ∃ m, k = m + 1 := ⟨k - 1, by omega⟩
    simp only [vint_Get.l0]
    have hb := rd_byte hl i h0 (by omega)
    have hp := pow256 i.toNat (by omega)
    rw [if_pos (by omega), if_pos h0, if_pos (by omega), w64 (n * 256) (by omega), w64 (rd l i) (by omega), w64 (i + 1) (by omega), or_join 8 (n * 256) (rd l i) (by omega) (by omega) (by omega) hb.1 (by omega) (by omega)]
    rw [ih k _ (i + 1) (by omega) (by omega) (by omega) (by omega) (by omega) (by rw [show (i + 1).toNat = i.toNat + 1 from by omega, Int.pow_succ]; omega), rd_drop l i h0 (by omega)]
    rfl
theorem get_f (b : List Int) (hb : Bytes b) (hl : b.length ≤ 140737488351232) (i : Int) (hi : -9223372036854775808 ≤ i ∧ i ≤ 9223372036854775807) (k : Nat) (hk : 40 < k) : vint_Get.f k b i = some (get b i) := by
  obtain ⟨k, rfl⟩ : ∃ j, k = j + 2 := ⟨k - 2, by omega⟩
  unfold vint_Get.f get
  have bad : vint_Get.j0 (k + 2) b i true = some (0, 0, 1, i) := by rw [vint_Get.j0, if_pos rfl]
  by_cases c1 : i < 0
  · rw [if_pos c1, if_pos (Or.inl c1), bad]
  rw [if_neg c1]
  by_cases c2 : i > b.length
  · rw [decide_eq_true c2, if_pos (Or.inr c2), bad]
  rw [decide_eq_false c2, if_neg (by omega), vint_Get.j0, if_neg (by decide), if_pos (by omega), if_pos (by omega)]
  simp only [Option.bind_some]
  have hlen : ((b.drop i.toNat).length : Int) = b.length - i := by rw [List.length_drop]; omega
  have short : ∀ l, vint_Get.j1 (k + 1) b i l true = some (0, 0, 3, (b.length : Int)) := fun l => by rw [vint_Get.j1, if_pos rfl]
  by_cases c3 : i = b.length
  · rw [if_pos (by omega), if_pos c3, short]
  rw [if_neg (by omega), if_neg c3]
  have hrd : rd (b.drop i.toNat) 0 = rd b i := by
    rw [rd_drop b i (by omega) (by omega)]; rfl
  have hc := rd_byte hb i (by omega) (by omega)
  have hw := width_bd (rd b i)
  rw [if_pos (by omega), hrd, if_pos (by omega), shl_width hc.1 hc.2, hlen]
  by_cases c4 : (b.length : Int) - i < widthOf (rd b i)
  · rw [decide_eq_true c4, if_pos c4, short]
  rw [decide_eq_false c4, if_neg c4, vint_Get.j1, if_neg (by decide), if_pos (by omega), hrd, if_pos (by omega), shl_width hc.1 hc.2, if_pos (by omega), if_pos (by omega), and63 hc.1 hc.2]
  simp only [Option.bind_some]
  have hL : (((b.drop i.toNat).take (widthOf (rd b i)).toNat).drop 1) = (b.drop (i + 1).toNat).take (widthOf (rd b i) - 1).toNat := by
    rw [List.drop_take, List.drop_drop, show i.toNat + 1 = (i + 1).toNat from by omega, show (widthOf (rd b i)).toNat - 1 = (widthOf (rd b i) - 1).toNat from by omega]
  rw [hL]
  have hbs : Bytes ((b.drop (i + 1).toNat).take (widthOf (rd b i) - 1).toNat) := fun x hx => hb x (List.mem_of_mem_drop (List.mem_of_mem_take hx))
  have hls : ((b.drop (i + 1).toNat).take (widthOf (rd b i) - 1).toNat).length ≤ 7 := by rw [List.length_take]; omega
  rw [get_l0 i _ _ hbs hls ((b.drop (i + 1).toNat).take (widthOf (rd b i) - 1).toNat).length k _ 0 (by omega) (by omega) (by omega) (by omega) (by omega) (by simp; omega), w64 _ (by omega)]
  rfl
end Go.Proofs.Ytbfpoannmkblhaa.Plain
