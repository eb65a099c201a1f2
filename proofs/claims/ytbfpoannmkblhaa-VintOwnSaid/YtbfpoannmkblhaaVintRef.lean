/- What the reference's functions for vint come to: the same as vint's. -/
import Derived.Test.YtbfpoannmkblhaaVintPlain
import Derived.Test.YtbfpoannmkblhaaPAllx9
import Derived.Test.YtbfpoannmkblhaaPAllx10
import Derived.Test.YtbfpoannmkblhaaPAllx11
import Derived.Test.YtbfpoannmkblhaaPAllx14
import Derived.Test.YtbfpoannmkblhaaPAllx15
namespace Go.Proofs.Ytbfpoannmkblhaa.Plain
open Go.RowKit Go.Proofs.Ytbfpoannmkblhaa.PAll Go.Proofs.YtbfpoannmkblhaaW.PrintWords Go.Proofs.YtbfpoannmkblhaaW.PrintLast Go.Proofs.YtbfpoannmkblhaaW.PrintMore
set_option linter.unusedVariables false
set_option linter.unusedSimpArgs false

theorem le_snoc (j : Nat) : ∀ v, le (j + 1) v = le j v ++ [v / 256 ^ j % 256] := by
  induction j with
  | zero => intro v; simp [le]
  | succ j ih =>
    intro v
    rw [le, ih (v / 256), le, List.cons_append]
    congr 3
    rw [Int.pow_succ, Int.mul_comm (256 ^ j) 256, Int.ediv_ediv_of_nonneg (by omega)]
theorem le_add (j : Nat) : ∀ v q, le j (v + 256 ^ j * q) = le j v := by
  induction j with
  | zero => intro v q; rfl
  | succ j ih =>
    intro v q
    have e : v + 256 ^ (j + 1) * q = v + 256 * (256 ^ j * q) := by rw [Int.pow_succ, Int.mul_comm (256 ^ j) 256, Int.mul_assoc]
    rw [e]
    generalize hx : 256 ^ j * q = x
    rw [le, le]
    congr 1
    · omega
    · rw [show (v + 256 * x) / 256 = v / 256 + x from by omega, ← hx, ih]

theorem room_f (n : Int) {m : Int} (h0 : 0 ≤ m) (h : m ≤ 3) : turnbuckleref01_room.f n (wide m) = some (decide (0 ≤ n) && decide (n < powOf m)) := by
  unfold turnbuckleref01_room.f
  by_cases c : n ≥ 0
  · rw [if_pos c, decide_eq_true (show 0 ≤ n from c)]
    have key : ∀ (s : Int) (p : Int), s = bitsOf m → p = powOf m → ((2 : Int) ^ s.toNat = p) → s.toNat ≤ 64 → 0 ≤ s → (shr .i64 n s == 0) = decide (n < p) := by
      intro s p _ _ h2 h3 h4
      rw [shr_small .i64 n s h3, h2, Bool.eq_iff_iff, beq_iff_eq, decide_eq_true_eq]
      have hp : 0 < p := by rw [← h2]; exact Int.pow_pos (by omega)
      exact ⟨fun e => by have := Int.lt_mul_of_ediv_lt hp (show n / p < 1 by omega); omega, fun e => Int.ediv_eq_zero_of_lt c e⟩
    rcases four h0 h with rfl | rfl | rfl | rfl
    · rw [show wrap64 (wrap64 (8 * wide 0) - 2) = 6 from by decide +kernel, if_pos (by omega), key 6 (powOf 0) rfl rfl (by decide +kernel) (by decide) (by omega)]; rfl
    · rw [show wrap64 (wrap64 (8 * wide 1) - 2) = 14 from by decide +kernel, if_pos (by omega), key 14 (powOf 1) rfl rfl (by decide +kernel) (by decide) (by omega)]; rfl
    · rw [show wrap64 (wrap64 (8 * wide 2) - 2) = 30 from by decide +kernel, if_pos (by omega), key 30 (powOf 2) rfl rfl (by decide +kernel) (by decide) (by omega)]; rfl
    · rw [show wrap64 (wrap64 (8 * wide 3) - 2) = 62 from by decide +kernel, if_pos (by omega), key 62 (powOf 3) rfl rfl (by decide +kernel) (by decide) (by omega)]; rfl
  · rw [if_neg c, decide_eq_false (by omega)]; rfl

theorem mark_f {m : Int} (h0 : 0 ≤ m) (h : m ≤ 3) (k : Nat) (hk : 10 < k) : turnbuckleref01_mark.f k (wide m) = some m := by
  rcases four h0 h with rfl | rfl | rfl | rfl
  · exact at_rounds (g := fun k => turnbuckleref01_mark.f k (wide 0)) (fun k => turnbuckleref01_mark.mono _ k) (show 10 ≤ k by omega) (by decide +kernel)
  · exact at_rounds (g := fun k => turnbuckleref01_mark.f k (wide 1)) (fun k => turnbuckleref01_mark.mono _ k) (show 10 ≤ k by omega) (by decide +kernel)
  · exact at_rounds (g := fun k => turnbuckleref01_mark.f k (wide 2)) (fun k => turnbuckleref01_mark.mono _ k) (show 10 ≤ k by omega) (by decide +kernel)
  · exact at_rounds (g := fun k => turnbuckleref01_mark.f k (wide 3)) (fun k => turnbuckleref01_mark.mono _ k) (show 10 ≤ k by omega) (by decide +kernel)

theorem shr8 (n : Int) (i : Nat) (hi : i ≤ 7) : shr .i64 n (wrap64 (8 * (i : Int))) = n / 256 ^ i := by
  rw [w64 _ (by omega), shr_small .i64 n _ (by show _ ≤ 64; omega)]
  congr 1
  have : i = 0 ∨ i = 1 ∨ i = 2 ∨ i = 3 ∨ i = 4 ∨ i = 5 ∨ i = 6 ∨ i = 7 := by omega
  rcases this with rfl | rfl | rfl | rfl | rfl | rfl | rfl | rfl <;> decide +kernel
/-- behind the first byte -/
theorem refput_l0 (n W : Int) (hW : W ≤ 8) (j : Nat) : ∀ (k : Nat) (acc : List Int), (j : Int) ≤ W - 1 → acc.length + j < 140737488355328 → j < k →
    turnbuckleref01_PutWide.l0 k n W acc ((j : Int) - 1) = some (acc ++ (le j n).reverse, 0) := by
  induction j with
  | zero =>
    intro k acc h1 h2 hk
    obtain ⟨k, rfl⟩ : ∃ m, k = m + 1 := ⟨k - 1, by omega⟩
    rw [turnbuckleref01_PutWide.l0, if_neg (by omega)]
    simp [le]
  | succ j ih =>
    intro k acc h1 h2 hk
    obtain ⟨k, rfl⟩ : ∃ m, k = m + 1 := ⟨k - 1, by omega⟩
    rw [show (((j + 1 : Nat) : Int) - 1) = j from by omega, turnbuckleref01_PutWide.l0, if_pos (by omega), shr8 n j (by omega), if_pos (by rw [w64 _ (by omega)]; omega), w64 (W - 1) (by omega), if_neg (by omega), if_pos (by omega), w64 _ (by omega), ih k _ (by omega) (by simp; omega) (by omega), le_snoc]
    simp
theorem top_byte (n : Int) {m : Int} (h0 : 0 ≤ m) (h : m ≤ 3) (hn : 0 ≤ n) (hn' : n < powOf m) (p : Int) (hp : p = 256 ^ (wide m - 1).toNat) :
    Go.bits .or .u8 (n / p % 256) (wrap64 (m * 64) % 256) = (n + markOf m) / p % 256 := by
  rw [or_comm, w64 _ (by omega)]
  rcases four h0 h with rfl | rfl | rfl | rfl
  · have e : n < 64 := hn'
    have hp : p = 1 := hp
    subst hp
    rw [show (0 * 64 : Int) % 256 = 0 from rfl, or_join_u8 6 0 _ (by omega) (by omega) (by omega) (by omega) (by omega) (by omega)]
    simp [markOf]
  · have e : n < 16384 := hn'
    have hp : p = 256 := hp
    subst hp
    rw [show (1 * 64 : Int) % 256 = 64 from rfl, or_join_u8 6 64 _ (by omega) (by omega) (by omega) (by omega) (by omega) (by omega)]
    simp [markOf]; omega
  · have e : n < 1073741824 := hn'
    have hp : p = 16777216 := hp
    subst hp
    rw [show (2 * 64 : Int) % 256 = 128 from rfl, or_join_u8 6 128 _ (by omega) (by omega) (by omega) (by omega) (by omega) (by omega)]
    simp [markOf]; omega
  · have e : n < 4611686018427387904 := hn'
    have hp : p = 72057594037927936 := hp
    subst hp
    rw [show (3 * 64 : Int) % 256 = 192 from rfl, or_join_u8 6 192 _ (by omega) (by omega) (by omega) (by omega) (by omega) (by omega)]
    simp [markOf]; omega
theorem le_mark (n : Int) {m : Int} (h0 : 0 ≤ m) (h : m ≤ 3) : le (wide m - 1).toNat (n + markOf m) = le (wide m - 1).toNat n := by
  rcases four h0 h with rfl | rfl | rfl | rfl
  · rfl
  · exact le_add 1 n 64
  · exact le_add 3 n 128
  · exact le_add 7 n (-64)
theorem refput_yes (b : List Int) (hb : b.length ≤ 140737488351232) (n m : Int) (h0 : 0 ≤ m) (h : m ≤ 3) (hn : 0 ≤ n) (hn' : n < powOf m) (k : Nat) (hk : 40 < k) :
    turnbuckleref01_PutWide.j0 k b n (wide m) false = some (putw b n m, 0) := by
  obtain ⟨k, rfl⟩ : ∃ j, k = j + 2 := ⟨k - 2, by omega⟩
  have hw := wide_bd h0 h
  rw [turnbuckleref01_PutWide.j0, if_neg (by decide), if_pos (by simp; omega), w64 _ (by omega), turnbuckleref01_PutWide.l0, if_pos (by omega), if_pos (by rw [w64 _ (by omega)]; omega), w64 (wide m - 1) (by omega), if_pos rfl, mark_f h0 h k (by omega)]
  simp only [Option.bind_some]
  have e : ((wide m - 1).toNat : Int) = wide m - 1 := by omega
  have hs := shr8 n (wide m - 1).toNat (by omega)
  rw [e] at hs
  rw [if_pos (by simp; omega), hs, top_byte n h0 h hn hn' _ rfl, w64 _ (by omega)]
  have hl := refput_l0 n (wide m) (by omega) (wide m - 1).toNat k ([] ++ b ++ [(n + markOf m) / 256 ^ (wide m - 1).toNat % 256]) (by omega) (by simp; omega) (by omega)
  rw [e] at hl
  rw [hl]
  unfold putw
  rw [show (wide m).toNat = (wide m - 1).toNat + 1 from by omega, le_snoc, le_mark n h0 h]
  simp
theorem refputwide_f (b : List Int) (hb : b.length ≤ 140737488351232) (n w : Int) (k : Nat) (hk : 40 < k) : turnbuckleref01_PutWide.f k b n w = some (if mayw n w = true then (putw b n (mrk w), 0) else ([], 1)) := by
  have bad : turnbuckleref01_PutWide.j0 k b n w true = some ([], 1) := by
    obtain ⟨k, rfl⟩ : ∃ j, k = j + 1 := ⟨k - 1, by omega⟩
    rw [turnbuckleref01_PutWide.j0, if_pos rfl]
  have good : ∀ m : Int, 0 ≤ m → m ≤ 3 → w = wide m → mrk w = m → mayw n w = (decide (0 ≤ n) && decide (n < powOf m)) →
      ((turnbuckleref01_room.f n w).bind fun t => turnbuckleref01_PutWide.j0 k b n w (!t)) = some (if mayw n w = true then (putw b n (mrk w), 0) else ([], 1)) := by
    intro m h0 h3 hw hm hy
    rw [hm, hy, hw, room_f n h0 h3]
    simp only [Option.bind_some]
    by_cases c : (decide (0 ≤ n) && decide (n < powOf m)) = true
    · rw [if_pos c, c]
      simp only [Bool.and_eq_true, decide_eq_true_eq] at c
      exact refput_yes b hb n m h0 h3 c.1 c.2 k hk
    · rw [if_neg c, Bool.not_eq_true _ |>.mp c, ← hw]
      exact bad
  unfold turnbuckleref01_PutWide.f
  by_cases e1 : w = 1
  · rw [if_pos e1]; subst e1; exact good 0 (by omega) (by omega) rfl rfl (by simp [mayw])
  rw [if_neg e1]
  by_cases e2 : w = 2
  · rw [if_pos e2]; subst e2; exact good 1 (by omega) (by omega) rfl rfl (by simp [mayw])
  rw [if_neg e2]
  by_cases e3 : w = 4
  · rw [if_pos e3]; subst e3; exact good 2 (by omega) (by omega) rfl rfl (by simp [mayw])
  rw [if_neg e3]
  by_cases e4 : w = 8
  · rw [if_pos e4]; subst e4; exact good 3 (by omega) (by omega) rfl rfl (by simp [mayw])
  rw [if_neg e4, bad, if_neg (by simp [mayw, e1, e2, e3, e4])]

theorem refsize_step (n : Int) (k : Nat) {m : Int} (h0 : 0 ≤ m) (h : m ≤ 3) : turnbuckleref01_Size.l0 (k + 1) n (wide m) = if 0 ≤ n ∧ n < powOf m then some (wide m) else turnbuckleref01_Size.l0 k n (2 * wide m) := by
  have hw := wide_bd h0 h
  rw [turnbuckleref01_Size.l0, if_pos (by omega), room_f n h0 h]
  simp only [Option.bind_some]
  rw [w64 _ (by omega), Int.mul_comm]
  by_cases c : 0 ≤ n ∧ n < powOf m
  · rw [if_pos c, decide_eq_true c.1, decide_eq_true c.2]; rfl
  · rw [if_neg c, if_neg (by simpa using c)]
theorem refsize_f (n : Int) (k : Nat) (hk : 10 < k) : turnbuckleref01_Size.f k n = some (szOf n) := by
  obtain ⟨k, rfl⟩ : ∃ j, k = j + 1 + 1 + 1 + 1 + 1 := ⟨k - 5, by omega⟩
  unfold turnbuckleref01_Size.f
  have e4 : turnbuckleref01_Size.l0 (k + 1) n (2 * wide 3) = some 0 := by rw [turnbuckleref01_Size.l0, if_neg (by decide)]
  have s0 := refsize_step n (k + 1 + 1 + 1 + 1) (m := 0) (by omega) (by omega)
  have s1 := refsize_step n (k + 1 + 1 + 1) (m := 1) (by omega) (by omega)
  have s2 := refsize_step n (k + 1 + 1) (m := 2) (by omega) (by omega)
  have s3 := refsize_step n (k + 1) (m := 3) (by omega) (by omega)
  rw [e4] at s3
  rw [show 2 * wide 2 = wide 3 from rfl, s3] at s2
  rw [show 2 * wide 1 = wide 2 from rfl, s2] at s1
  rw [show 2 * wide 0 = wide 1 from rfl, s1] at s0
  rw [show (1 : Int) = wide 0 from rfl, s0]
  have p0 : powOf 0 = 64 := rfl
  have p1 : powOf 1 = 16384 := rfl
  have p2 : powOf 2 = 1073741824 := rfl
  have p3 : powOf 3 = 4611686018427387904 := rfl
  have w0 : wide 0 = 1 := rfl
  have w1 : wide 1 = 2 := rfl
  have w2 : wide 2 = 4 := rfl
  have w3 : wide 3 = 8 := rfl
  rw [p0, p1, p2, p3, w0, w1, w2, w3]
  unfold szOf
  by_cases hn : 0 ≤ n
  · rw [if_pos hn]
    by_cases a : n < 64
    · rw [if_pos a, if_pos ⟨hn, a⟩]
    rw [if_neg a, if_neg (by omega)]
    by_cases a : n < 16384
    · rw [if_pos a, if_pos ⟨hn, a⟩]
    rw [if_neg a, if_neg (by omega)]
    by_cases a : n < 1073741824
    · rw [if_pos a, if_pos ⟨hn, a⟩]
    rw [if_neg a, if_neg (by omega)]
    by_cases a : n < 4611686018427387904
    · rw [if_pos a, if_pos ⟨hn, a⟩]
    rw [if_neg a, if_neg (by omega)]
  · rw [if_neg hn, if_neg (by omega), if_neg (by omega), if_neg (by omega), if_neg (by omega)]
theorem refput_f (b : List Int) (hb : b.length ≤ 140737488351232) (n : Int) (k : Nat) (hk : 40 < k) : turnbuckleref01_Put.f k b n = some (if may n = true then (putn b n, 0) else ([], 1)) := by
  unfold turnbuckleref01_Put.f
  rw [refsize_f n k (by omega)]
  simp only [Option.bind_some]
  rw [refputwide_f b hb n _ k hk, mayw_size]
  rfl
end Go.Proofs.Ytbfpoannmkblhaa.Plain
