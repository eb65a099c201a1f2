import Derived.Test.YtpdchohbmmfemaazFv0
import Derived.Test.YtpdchohbmmfemaazFe
namespace Go.Proofs.Ytpdchohbmmfemaa.X
open Go Go.RowKit Go.Proofs.YtpdchohbmmfemaaW.Rx Go.Proofs.Ytpdchohbmmfemaa.Plain Go.Proofs.YtpdchohbmmfemaaW.PrintWords
set_option linter.unusedVariables false
set_option linter.unusedSimpArgs false
theorem b_or (x y : Int) : IntKind.i64.wrap (((BitVec.toNat (BitVec.ofInt 64 x ||| BitVec.ofInt 64 y)) : Nat) : Int) = Go.bits .or .i64 x y := rfl
theorem b_and8 (x y : Int) : IntKind.wrap IntKind.u8 (((BitVec.toNat (BitVec.ofInt 8 x &&& BitVec.ofInt 8 y)) : Nat) : Int) = Go.bits .and .u8 x y := rfl
theorem wrap_u8 (n : Int) : IntKind.u8.wrap n = n % 256 := by
 unfold IntKind.wrap
 simp [IntKind.bits, IntKind.signed]
theorem concat2_F (a b : List Int) (k : Nat) (hk : 3 ≤ k) (h : a.length + b.length ≤ 140737488355328) : slices_Concat_byte_byte.F k [a, b] = some (a ++ b) := by
 obtain ⟨k, rfl⟩ : ∃ m, k = m + 3 := ⟨k - 3, by omega⟩
 have g0 : getI [a, b] 0 = some a := rfl
 have g1 : getI [a, b] 1 = some b := rfl
 have w1 : IntKind.i64.wrap ((0 : Int) + 1) = 1 := by decide
 have w2 : IntKind.i64.wrap ((1 : Int) + 1) = 2 := by decide
 have l3 : (((([a, b] : List (List Int)).length : Nat) : Int)) = 2 := rfl
 have d0 : decide ((0 : Int) < 2) = true := rfl
 have d1 : decide ((1 : Int) < 2) = true := rfl
 have d2 : decide ((2 : Int) < 2) = false := rfl
 have s1 : IntKind.i64.wrap ((0 : Int) + (a.length : Int)) = (a.length : Int) := by rw [wrap_in _ (by omega) (by omega)]; omega
 have s2 : IntKind.i64.wrap ((a.length : Int) + (b.length : Int)) = (a.length : Int) + b.length := by rw [wrap_in _ (by omega) (by omega)]
 have n1 : decide ((a.length : Int) < 0) = false := decide_eq_false (by omega)
 have n2 : decide ((a.length : Int) + b.length < 0) = false := decide_eq_false (by omega)
 have hg : slices_Grow_byte_byte.F (k + 3) ((a.length : Int) + b.length) = some [] := by
  unfold slices_Grow_byte_byte.F
  rw [decide_eq_true (by omega)]; rfl
 have q1 : decide ((([] : List Int).length + a.length) * 1 ≤ 140737488355328) = true := decide_eq_true (by simp only [List.length_nil]; omega)
 have q2 : decide ((a.length + b.length) * 1 ≤ 140737488355328) = true := decide_eq_true (by omega)
 simp only [slices_Concat_byte_byte.F, iter, slices_Concat_byte_byte.s0, slices_Concat_byte_byte.s2, l3, d0, d1, d2, cond_true, cond_false, g0, g1, Option.bind_some, s1, s2, n1, n2, w1, w2, hg, q1, q2, List.nil_append]
theorem bits_F {m : Int} (h0 : 0 ≤ m) (h : m ≤ 3) (k : Nat) : vint_bits.F k m = some (bitsOf m) := by
 rcases four h0 h with rfl | rfl | rfl | rfl <;> rfl
theorem fits_F (n : Int) {m : Int} (h0 : 0 ≤ m) (h : m ≤ 3) (k : Nat) : vint_fits.F k n m = some (decide (0 ≤ n) && decide (n < powOf m)) := by
 unfold vint_fits.F
 rw [bits_F h0 h]
 have hp : IntKind.i64.wrap (1 * 2 ^ min (Int.toNat (bitsOf m)) 64) = powOf m := by rcases four h0 h with rfl | rfl | rfl | rfl <;> decide
 have hb : decide (0 ≤ bitsOf m) = true := by rcases four h0 h with rfl | rfl | rfl | rfl <;> rfl
 simp only [Option.bind_some, hb, cond_true, hp]
 by_cases h1 : 0 ≤ n
 ·rw [decide_eq_true h1]
  by_cases h2 : n < powOf m
  ·rw [decide_eq_true h2]; rfl
  ·rw [decide_eq_false h2]; rfl
 ·rw [decide_eq_false h1]; rfl
theorem size_at (n : Int) (k q : Nat) {m : Int} (h0 : 0 ≤ m) (h : m ≤ 3) : iter (vint_Size.s0 k n) (q + 1) m = if 0 ≤ n ∧ n < powOf m then some (wide m) else iter (vint_Size.s0 k n) q (m + 1) := by
 have hw : IntKind.i64.wrap (1 * 2 ^ min (Int.toNat m) 64) = wide m := by rcases four h0 h with rfl | rfl | rfl | rfl <;> decide
 have h4 : decide (m < 4) = true := decide_eq_true (by omega)
 simp only [iter, vint_Size.s0, h4, cond_true, fits_F n h0 h, Option.bind_some]
 by_cases hc : 0 ≤ n ∧ n < powOf m
 ·rw [if_pos hc, decide_eq_true hc.1, decide_eq_true hc.2, decide_eq_true h0, hw]; rfl
 ·rw [if_neg hc, wrap_in (m + 1) (by omega) (by omega)]
  have : (decide (0 ≤ n) && decide (n < powOf m)) = false := by
   rw [Bool.and_eq_false_iff]
   by_cases h1 : 0 ≤ n
   ·exact Or.inr (decide_eq_false (fun h2 => hc ⟨h1, h2⟩))
   ·exact Or.inl (decide_eq_false h1)
  rw [this]; rfl
theorem size_F (n : Int) (k : Nat) (hk : 5 ≤ k) : vint_Size.F k n = some (szOf n) := by
 obtain ⟨q, rfl⟩ : ∃ q, k = q + 5 := ⟨k - 5, by omega⟩
 unfold vint_Size.F
 rw [size_at n _ (q + 4) (by omega) (by omega), size_at n _ (q + 3) (by omega) (by omega), size_at n _ (q + 2) (by omega) (by omega), size_at n _ (q + 1) (by omega) (by omega)]
 have hl : iter (vint_Size.s0 (q + 5) n) (q + 1) (0 + 1 + 1 + 1 + 1) = some 0 := rfl
 rw [hl]
 have p0 : powOf 0 = 64 := rfl
 have p1 : powOf (0 + 1) = 16384 := rfl
 have p2 : powOf (0 + 1 + 1) = 1073741824 := rfl
 have p3 : powOf (0 + 1 + 1 + 1) = 4611686018427387904 := rfl
 rw [p0, p1, p2, p3]
 unfold szOf
 by_cases hn : 0 ≤ n
 ·rw [if_pos hn]
  by_cases a : n < 64
  ·rw [if_pos a, if_pos ⟨hn, a⟩]; rfl
  rw [if_neg a, if_neg (by omega)]
  by_cases a : n < 16384
  ·rw [if_pos a, if_pos ⟨hn, a⟩]; rfl
  rw [if_neg a, if_neg (by omega)]
  by_cases a : n < 1073741824
  ·rw [if_pos a, if_pos ⟨hn, a⟩]; rfl
  rw [if_neg a, if_neg (by omega)]
  by_cases a : n < 4611686018427387904
  ·rw [if_pos a, if_pos ⟨hn, a⟩]; rfl
  rw [if_neg a, if_neg (by omega)]
 ·rw [if_neg hn, if_neg (by omega), if_neg (by omega), if_neg (by omega), if_neg (by omega)]
theorem index_F (x : Int) (k : Nat) (hk : 5 ≤ k) : slices_Index_int_int.F k [1, 2, 4, 8] x = some (if x = 1 then 0 else if x = 2 then 1 else if x = 4 then 2 else if x = 8 then 3 else -1) := by
 obtain ⟨q, rfl⟩ : ∃ q, k = q + 5 := ⟨k - 5, by omega⟩
 unfold slices_Index_int_int.F
 have g0 : getI [(1 : Int), 2, 4, 8] 0 = some 1 := rfl
 have g1 : getI [(1 : Int), 2, 4, 8] 1 = some 2 := rfl
 have g2 : getI [(1 : Int), 2, 4, 8] 2 = some 4 := rfl
 have g3 : getI [(1 : Int), 2, 4, 8] 3 = some 8 := rfl
 have w1 : IntKind.i64.wrap ((0 : Int) + 1) = 1 := by decide
 have w2 : IntKind.i64.wrap ((1 : Int) + 1) = 2 := by decide
 have w3 : IntKind.i64.wrap ((2 : Int) + 1) = 3 := by decide
 have w4 : IntKind.i64.wrap ((3 : Int) + 1) = 4 := by decide
 have l3 : (((([1, 2, 4, 8] : List Int).length : Nat) : Int)) = 4 := rfl
 have d0 : decide ((0 : Int) < 4) = true := rfl
 have d1 : decide ((1 : Int) < 4) = true := rfl
 have d2 : decide ((2 : Int) < 4) = true := rfl
 have d3 : decide ((3 : Int) < 4) = true := rfl
 have d4 : decide ((4 : Int) < 4) = false := rfl
 by_cases e1 : x = 1
 ·subst e1; rfl
 by_cases e2 : x = 2
 ·subst e2; rfl
 by_cases e3 : x = 4
 ·subst e3; rfl
 by_cases e4 : x = 8
 ·subst e4; rfl
 have f1 : (x == (1 : Int)) = false := by rw [beq_eq_false_iff_ne]; omega
 have f2 : (x == (2 : Int)) = false := by rw [beq_eq_false_iff_ne]; omega
 have f3 : (x == (4 : Int)) = false := by rw [beq_eq_false_iff_ne]; omega
 have f4 : (x == (8 : Int)) = false := by rw [beq_eq_false_iff_ne]; omega
 simp only [iter, slices_Index_int_int.s0, l3, d0, d1, d2, d3, d4, g0, g1, g2, g3, w1, w2, w3, w4, f1, f2, f3, f4, cond_true, cond_false, Option.bind_some, if_neg e1, if_neg e2, if_neg e3, if_neg e4]
theorem put_at (b : List Int) (hb : b.length ≤ 140737488351232) (W : Nat) (hW : W ≤ 8) (k : Nat) (hk : 3 ≤ k) (d : Nat) : ∀ (q : Nat) (v : Int) (acc : List Int) (i : Int), (i : Int) + d = W → 0 ≤ i → (acc.length : Int) = i → d < q → iter (vint_PutWide.s4 k (W : Int) b) q (v, acc, i) = some (b ++ (acc ++ le d v).reverse, 0) := by
 induction d with
 | zero =>
  intro q v acc i hi h0 ha hq
  obtain ⟨q, rfl⟩ : ∃ m, q = m + 1 := ⟨q - 1, by omega⟩
  simp only [iter, vint_PutWide.s4, decide_eq_false (by omega : ¬ i < (W : Int)), cond_false, le, List.append_nil]
  rw [concat2_F _ _ _ hk (by rw [List.length_reverse]; omega)]
  rfl
 | succ d ih =>
  intro q v acc i hi h0 ha hq
  obtain ⟨q, rfl⟩ : ∃ m, q = m + 1 := ⟨q - 1, by omega⟩
  have hr : decide ((acc.length + ([IntKind.wrap IntKind.u8 v] : List Int).length) * 1 ≤ 140737488355328) = true := decide_eq_true (by simp only [List.length_cons, List.length_nil]; omega)
  simp only [iter, vint_PutWide.s4, decide_eq_true (by omega : i < (W : Int)), cond_true, hr, Option.bind_some]
  rw [wrap_in (i + 1) (by omega) (by omega), show Int.fdiv v (2 ^ 8) = v / 256 from Int.fdiv_eq_ediv_of_nonneg _ (by decide), wrap_u8, ih q _ _ _ (by omega) (by omega) (by simp only [List.length_append, List.length_cons, List.length_nil]; omega) (by omega)]
  simp [le]
theorem wide_F (b : List Int) (hb : b.length ≤ 140737488351232) (n m : Int) (h0 : 0 ≤ m) (h : m ≤ 3) (hn : 0 ≤ n) (hn' : n < powOf m) (k : Nat) (hk : 12 ≤ k) : vint_PutWide.F k b n (wide m) = some (putw b n m, 0) := by
 unfold vint_PutWide.F
 rw [index_F _ k (by omega)]
 have e : (if wide m = 1 then (0 : Int) else if wide m = 2 then 1 else if wide m = 4 then 2 else if wide m = 8 then 3 else -1) = m := by rcases four h0 h with rfl | rfl | rfl | rfl <;> decide
 rw [e]
 have hs : IntKind.i64.wrap (m * 2 ^ min (Int.toNat (bitsOf m)) 64) = shl .i64 m (bitsOf m) := rfl
 have hbp : decide (0 ≤ bitsOf m) = true := by rcases four h0 h with rfl | rfl | rfl | rfl <;> rfl
 simp only [Option.bind_some, decide_eq_false (by omega : ¬ m < 0), cond_false, fits_F n h0 h, decide_eq_true hn, decide_eq_true hn', Bool.and_self, cond_true, bits_F h0 h, hbp, hs, b_or]
 rw [or_mark n h0 h hn hn']
 have hw := wide_bd h0 h
 obtain ⟨W, hW⟩ : ∃ W : Nat, wide m = W := ⟨(wide m).toNat, by omega⟩
 rw [hW, put_at b hb W (by omega) k (by omega) W k _ [] 0 (by omega) (by omega) rfl (by omega)]
 unfold putw
 rw [hW, Int.toNat_natCast, List.nil_append]
theorem put_F (b : List Int) (hb : b.length ≤ 140737488351232) (n : Int) (k : Nat) (hk : 12 ≤ k) : vint_Put.F k b n = some (if may n = true then (putn b n, 0) else ([], 1)) := by
 unfold vint_Put.F
 rw [size_F n k (by omega)]
 simp only [Option.bind_some]
 cases hm : may n with
 | true =>
  obtain ⟨g0, g3, gw, gn, gp⟩ := may_mark hm
  rw [← gw, wide_F b hb n _ g0 g3 gn gp k hk]
  rfl
 | false =>
  have hsz : szOf n = 0 := by
   unfold szOf
   have hno : ¬ (0 ≤ n ∧ n ≤ 4611686018427387903) := fun h => by rw [(may_iff n).2 h] at hm; cases hm
   by_cases hn : 0 ≤ n
   ·rw [if_pos hn, if_neg (by omega), if_neg (by omega), if_neg (by omega), if_neg (by omega)]
   ·rw [if_neg hn]
  rw [hsz]
  unfold vint_PutWide.F
  rw [index_F _ k (by omega)]
  rfl
end Go.Proofs.Ytpdchohbmmfemaa.X
