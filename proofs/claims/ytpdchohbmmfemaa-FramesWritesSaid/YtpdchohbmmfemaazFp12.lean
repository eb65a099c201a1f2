import Derived.Test.YtpdchohbmmfemaazFp10
namespace Go.Proofs.Ytpdchohbmmfemaa.X
open Go Go.RowKit Go.Proofs.YtpdchohbmmfemaaW.Rx Go.Proofs.Ytpdchohbmmfemaa.Plain Go.Proofs.YtpdchohbmmfemaaW.PrintWords
set_option linter.unusedVariables false
set_option linter.unusedSimpArgs false
set_option linter.unusedSectionVars false
theorem room_F (n : Int) {m : Int} (h0 : 0 ≤ m) (h : m ≤ 3) (k : Nat) : ref01_room.F k n (wide m) = some (decide (0 ≤ n) && decide (n < powOf m)) := by
 unfold ref01_room.F
 by_cases c : 0 ≤ n
 ·rw [decide_eq_true c]
  have key : ∀ (s : Nat) (p : Int), ((2 : Int) ^ s = p) → 0 < p → (Int.fdiv n ((2 : Int) ^ s) == 0) = decide (n < p) := by
   intro s p h2 hp
   rw [h2, Int.fdiv_eq_ediv_of_nonneg _ (by omega), Bool.eq_iff_iff, beq_iff_eq, decide_eq_true_eq]
   exact ⟨fun e => by have := Int.lt_mul_of_ediv_lt hp (show n / p < 1 by omega); omega, fun e => Int.ediv_eq_zero_of_lt c e⟩
  rcases four h0 h with rfl | rfl | rfl | rfl
  ·have e1 : IntKind.wrap IntKind.i64 (IntKind.wrap IntKind.i64 (8 * wide 0) - 2) = 6 := by decide +kernel
   rw [e1, show min (Int.toNat 6) 64 = 6 from rfl, key 6 (powOf 0) (by decide) (by decide)]
   cases decide (n < powOf 0) <;> rfl
  ·have e1 : IntKind.wrap IntKind.i64 (IntKind.wrap IntKind.i64 (8 * wide 1) - 2) = 14 := by decide +kernel
   rw [e1, show min (Int.toNat 14) 64 = 14 from rfl, key 14 (powOf 1) (by decide) (by decide)]
   cases decide (n < powOf 1) <;> rfl
  ·have e1 : IntKind.wrap IntKind.i64 (IntKind.wrap IntKind.i64 (8 * wide 2) - 2) = 30 := by decide +kernel
   rw [e1, show min (Int.toNat 30) 64 = 30 from rfl, key 30 (powOf 2) (by decide) (by decide)]
   cases decide (n < powOf 2) <;> rfl
  ·have e1 : IntKind.wrap IntKind.i64 (IntKind.wrap IntKind.i64 (8 * wide 3) - 2) = 62 := by decide +kernel
   rw [e1, show min (Int.toNat 62) 64 = 62 from rfl, key 62 (powOf 3) (by decide) (by decide)]
   cases decide (n < powOf 3) <;> rfl
 ·rw [decide_eq_false c]; rfl
theorem mark_F {m : Int} (h0 : 0 ≤ m) (h : m ≤ 3) (k : Nat) (hk : 10 < k) : ref01_mark.F k (wide m) = some m := by
 obtain ⟨q, rfl⟩ : ∃ q, k = q + 5 := ⟨k - 5, by omega⟩
 rcases four h0 h with rfl | rfl | rfl | rfl <;> rfl
theorem rsize_at (n : Int) (k q : Nat) {m : Int} (h0 : 0 ≤ m) (h : m ≤ 3) : iter (ref01_Size.s0 k n) (q + 1) (wide m) = if 0 ≤ n ∧ n < powOf m then some (wide m) else iter (ref01_Size.s0 k n) q (2 * wide m) := by
 have hw := wide_bd h0 h
 simp only [iter, ref01_Size.s0]
 rw [decide_eq_true (by omega : wide m ≤ 8), room_F n h0 h, wrap_in _ (by omega) (by omega), Int.mul_comm]
 simp only [cond_true, Option.bind_some]
 by_cases hc : 0 ≤ n ∧ n < powOf m
 ·rw [if_pos hc, decide_eq_true hc.1, decide_eq_true hc.2]; rfl
 ·rw [if_neg hc]
  have : (decide (0 ≤ n) && decide (n < powOf m)) = false := by
   rw [Bool.and_eq_false_iff]
   by_cases h1 : 0 ≤ n
   ·exact Or.inr (decide_eq_false (fun h2 => hc ⟨h1, h2⟩))
   ·exact Or.inl (decide_eq_false h1)
  rw [this]; rfl
theorem rsize_F (n : Int) (k : Nat) (hk : 5 ≤ k) : ref01_Size.F k n = some (szOf n) := by
 obtain ⟨q, rfl⟩ : ∃ q, k = q + 5 := ⟨k - 5, by omega⟩
 unfold ref01_Size.F
 have s0 := rsize_at n (q + 5) (q + 4) (m := 0) (by omega) (by omega)
 have s1 := rsize_at n (q + 5) (q + 3) (m := 1) (by omega) (by omega)
 have s2 := rsize_at n (q + 5) (q + 2) (m := 2) (by omega) (by omega)
 have s3 := rsize_at n (q + 5) (q + 1) (m := 3) (by omega) (by omega)
 have e4 : iter (ref01_Size.s0 (q + 5) n) (q + 1) (2 * wide 3) = some 0 := rfl
 rw [e4] at s3
 rw [show 2 * wide 2 = wide 3 from rfl, s3] at s2
 rw [show 2 * wide 1 = wide 2 from rfl, s2] at s1
 rw [show 2 * wide 0 = wide 1 from rfl, s1] at s0
 have e0 : iter (ref01_Size.s0 (q + 5) n) (q + 5) 1 = iter (ref01_Size.s0 (q + 5) n) (q + 4 + 1) (wide 0) := rfl
 rw [e0, s0]
 have p0 : powOf 0 = 64 := rfl
 have p1 : powOf 1 = 16384 := rfl
 have p2 : powOf 2 = 1073741824 := rfl
 have p3 : powOf 3 = 4611686018427387904 := rfl
 have w0 : wide 0 = 1 := rfl
 have w1 : wide 1 = 2 := rfl
 have w2 : wide 2 = 4 := rfl
 have w3 : wide 3 = 8 := rfl
 rw [p0, p1, p2, p3, w0, w1, w2, w3]
 unfold szOf
 by_cases hn : 0 ≤ n
 ·rw [if_pos hn]
  by_cases a : n < 64
  ·rw [if_pos a, if_pos ⟨hn, a⟩]
  rw [if_neg a, if_neg (by omega)]
  by_cases a : n < 16384
  ·rw [if_pos a, if_pos ⟨hn, a⟩]
  rw [if_neg a, if_neg (by omega)]
  by_cases a : n < 1073741824
  ·rw [if_pos a, if_pos ⟨hn, a⟩]
  rw [if_neg a, if_neg (by omega)]
  by_cases a : n < 4611686018427387904
  ·rw [if_pos a, if_pos ⟨hn, a⟩]
  rw [if_neg a, if_neg (by omega)]
 ·rw [if_neg hn, if_neg (by omega), if_neg (by omega), if_neg (by omega), if_neg (by omega)]
theorem shr8 (n : Int) (i : Nat) (hi : i ≤ 7) : IntKind.wrap IntKind.u8 (Int.fdiv n (2 ^ min (Int.toNat (IntKind.wrap IntKind.i64 (8 * (i : Int)))) 64)) = n / 256 ^ i % 256 := by
 rw [wrap_u8]
 have : i = 0 ∨ i = 1 ∨ i = 2 ∨ i = 3 ∨ i = 4 ∨ i = 5 ∨ i = 6 ∨ i = 7 := by omega
 rcases this with rfl | rfl | rfl | rfl | rfl | rfl | rfl | rfl <;> exact congrArg (· % 256) (Int.fdiv_eq_ediv_of_nonneg _ (by decide))
theorem rput_at (n W : Int) (k : Nat) (hW : W ≤ 8) (j : Nat) : ∀ (q : Nat) (acc : List Int), (j : Int) ≤ W - 1 → acc.length + j < 140737488355328 → j < q → iter (ref01_PutWide.s2 k n W) q (acc, (j : Int) - 1) = some (acc ++ (le j n).reverse, 0) := by
 induction j with
 | zero =>
  intro q acc h1 h2 hq
  obtain ⟨q, rfl⟩ : ∃ m, q = m + 1 := ⟨q - 1, by omega⟩
  simp only [iter, ref01_PutWide.s2]
  rw [decide_eq_false (by omega : ¬ 0 ≤ ((0 : Nat) : Int) - 1)]
  simp [le]
 | succ j ih =>
  intro q acc h1 h2 hq
  obtain ⟨q, rfl⟩ : ∃ m, q = m + 1 := ⟨q - 1, by omega⟩
  rw [show (((j + 1 : Nat) : Int) - 1) = j from by omega]
  simp only [iter, ref01_PutWide.s2]
  rw [decide_eq_true (by omega : (0 : Int) ≤ (j : Int)), shr8 n j (by omega), decide_eq_true (by rw [wrap_in _ (by omega) (by omega)]; omega : 0 ≤ IntKind.wrap IntKind.i64 (8 * (j : Int))), wrap_in (W - 1) (by omega) (by omega), beq_eq_false_iff_ne.mpr (by omega : (j : Int) ≠ W - 1), wrap_in ((j : Int) - 1) (by omega) (by omega)]
  simp only [cond_true, cond_false]
  rw [decide_eq_true (by simp only [List.length_cons, List.length_nil]; omega)]
  simp only [cond_true, Option.bind_some]
  rw [ih q _ (by omega) (by simp only [List.length_append, List.length_cons, List.length_nil]; omega) (by omega), le_snoc]
  simp
theorem top_byte (n : Int) {m : Int} (h0 : 0 ≤ m) (h : m ≤ 3) (hn : 0 ≤ n) (hn' : n < powOf m) (p : Int) (hp : p = 256 ^ (wide m - 1).toNat) :
  Go.bits .or .u8 (n / p % 256) (IntKind.wrap IntKind.u8 (IntKind.wrap IntKind.i64 (m * 2 ^ 6))) = (n + markOf m) / p % 256 := by
 rw [Plain.or_comm]
 rcases four h0 h with rfl | rfl | rfl | rfl
 ·have e : n < 64 := hn'
  have hp : p = 1 := hp
  subst hp
  rw [show IntKind.wrap IntKind.u8 (IntKind.wrap IntKind.i64 (0 * 2 ^ 6)) = 0 by decide +kernel, or_join_u8 6 0 _ (by omega) (by omega) (by omega) (by omega) (by omega) (by omega)]
  simp [markOf]
 ·have e : n < 16384 := hn'
  have hp : p = 256 := hp
  subst hp
  rw [show IntKind.wrap IntKind.u8 (IntKind.wrap IntKind.i64 (1 * 2 ^ 6)) = 64 by decide +kernel, or_join_u8 6 64 _ (by omega) (by omega) (by omega) (by omega) (by omega) (by omega)]
  simp [markOf]; omega
 ·have e : n < 1073741824 := hn'
  have hp : p = 16777216 := hp
  subst hp
  rw [show IntKind.wrap IntKind.u8 (IntKind.wrap IntKind.i64 (2 * 2 ^ 6)) = 128 by decide +kernel, or_join_u8 6 128 _ (by omega) (by omega) (by omega) (by omega) (by omega) (by omega)]
  simp [markOf]; omega
 ·have e : n < 4611686018427387904 := hn'
  have hp : p = 72057594037927936 := hp
  subst hp
  rw [show IntKind.wrap IntKind.u8 (IntKind.wrap IntKind.i64 (3 * 2 ^ 6)) = 192 by decide +kernel, or_join_u8 6 192 _ (by omega) (by omega) (by omega) (by omega) (by omega) (by omega)]
  simp [markOf]; omega
theorem rput_yes (b : List Int) (hb : b.length ≤ 140737488351232) (n m : Int) (h0 : 0 ≤ m) (h : m ≤ 3) (hn : 0 ≤ n) (hn' : n < powOf m) (k : Nat) (hk : 40 < k) :
  (bif decide (((([] : List Int)).length + b.length) * 1 ≤ 140737488355328) then (iter (ref01_PutWide.s2 k n (wide m)) k ((([] : List Int) ++ b), IntKind.wrap IntKind.i64 (wide m - 1))) else none) = some (putw b n m, 0) := by
 have hw := wide_bd h0 h
 obtain ⟨q, hq⟩ : ∃ j, k = j + 1 := ⟨k - 1, by omega⟩
 rw [decide_eq_true (by simp only [List.length_nil]; omega), cond_true, List.nil_append, wrap_in (wide m - 1) (by omega) (by omega)]
 have e : ((wide m - 1).toNat : Int) = wide m - 1 := by omega
 have hit : iter (ref01_PutWide.s2 k n (wide m)) k (b, wide m - 1) = iter (ref01_PutWide.s2 k n (wide m)) (q + 1) (b, (((wide m - 1).toNat : Nat) : Int)) := by rw [e, ← hq]
 rw [hit]
 simp only [iter, ref01_PutWide.s2]
 rw [decide_eq_true (by omega : (0 : Int) ≤ (((wide m - 1).toNat : Nat) : Int)), shr8 n _ (by omega), decide_eq_true (by rw [wrap_in _ (by omega) (by omega)]; omega : 0 ≤ IntKind.wrap IntKind.i64 (8 * (((wide m - 1).toNat : Nat) : Int))), wrap_in (wide m - 1) (by omega) (by omega), e, beq_self_eq_true, mark_F h0 h k (by omega), wrap_in (wide m - 1 - 1) (by omega) (by omega)]
 simp only [cond_true, Option.bind_some, b_or8]
 rw [top_byte n h0 h hn hn' _ rfl, decide_eq_true (by simp only [List.length_cons, List.length_nil]; omega)]
 simp only [cond_true]
 have hl := rput_at n (wide m) k (by omega) (wide m - 1).toNat q (b ++ [(n + markOf m) / 256 ^ (wide m - 1).toNat % 256]) (by omega) (by simp only [List.length_append, List.length_cons, List.length_nil]; omega) (by omega)
 rw [e] at hl
 simp only [Option.bind_some]
 rw [hl]
 unfold putw
 rw [show (wide m).toNat = (wide m - 1).toNat + 1 from by omega, le_snoc, le_mark n h0 h]
 simp
theorem rput_F (b : List Int) (hb : b.length ≤ 140737488351232) (n : Int) (hn : may n = true) (k : Nat) (hk : 40 < k) : ref01_Put.F k b n = some (b ++ wn n, 0) := by
 unfold ref01_Put.F
 rw [rsize_F n k (by omega)]
 simp only [Option.bind_some]
 obtain ⟨g0, g3, gw, gn, gp⟩ := may_mark hn
 have hr := room_F n g0 g3 k
 rw [decide_eq_true gn, decide_eq_true gp] at hr
 have hy := rput_yes b hb n _ g0 g3 gn gp k hk
 have hwf : putw b n (mrk (szOf n)) = b ++ wn n := by simp [putw, wn]
 rw [hwf] at hy
 rw [← gw]
 unfold ref01_PutWide.F
 generalize mrk (szOf n) = m at *
 rw [hr]
 simp only [Bool.and_self, Option.bind_some, cond_true]
 rw [hy]
 rcases four g0 g3 with rfl | rfl | rfl | rfl <;> rfl
theorem rputs_F (k : Nat) (hk : 40 < k) (l : List Int) : ∀ (b : List Int), l.all may = true → b.length + 8 * l.length ≤ 140737488351232 → l.foldlM (fun b n => (ref01_Put.F k b n).map (·.1)) b = some (b ++ l.flatMap wn) := by
 induction l with
 | nil => intro b _ _; simp
 | cons n l ih =>
  intro b hm hb
  rw [List.all_cons, Bool.and_eq_true] at hm
  simp only [List.length_cons] at hb
  rw [List.foldlM_cons, rput_F b (by omega) n hm.1 k hk]
  have := wn_le n
  show l.foldlM _ (b ++ wn n) = _
  rw [ih _ hm.2 (by rw [List.length_append]; omega), List.flatMap_cons, List.append_assoc]
theorem rputl_F (k : Nat) (hk : 40 < k) (b l : List Int) (hl : l ≠ []) (hm : l.all may = true) (hb : b.length + 8 * l.length ≤ 140737488351232) : ref04_put.F k b l = some (b ++ l.flatMap wn) := by
 unfold ref04_put.F
 rw [if_neg hl]
 exact rputs_F k hk l b hm hb
theorem rput_D (k : Nat) (hk : 40 < k) (l d : List Int) (hl : l ≠ []) (hm : l.all may = true) (hl2 : l.length ≤ 10) (hd : d.length ≤ 1200) : ((ref04_put.F k [] l).bind fun s2_0 => bif decide ((s2_0.length + d.length) * 1 ≤ 140737488355328) then (some (((s2_0 ++ d)))) else none) = some (l.flatMap wn ++ d) := by
 rw [rputl_F k hk [] l hl hm (by rw [List.length_nil]; omega)]
 have := wns_le l
 simp only [Option.bind_some, List.nil_append]
 rw [decide_eq_true (by omega), cond_true]
theorem rgaps (k : Nat) (hk : 100 ≤ k) (zs : List (Int × Int)) (hzl : zs.length ≤ 1000) (r : List (Int × Int)) : ∀ (z : Int × Int) (suf : List (Int × Int)) (q : Nat) (acc : List Int), zs = r.reverse ++ z :: suf → okS z → Desc z.1 r → acc.length + 16 * r.length ≤ 100000 → r.length < q → iter (ref04_bytes.s3 k zs) q (acc, (r.length : Int) - 1) = some (acc ++ gapsB z.1 r) := by
 induction r with
 | nil =>
  intro z suf q acc hz hok hd ha hq
  obtain ⟨q, rfl⟩ : ∃ m, q = m + 1 := ⟨q - 1, by simp at hq; omega⟩
  simp only [iter, ref04_bytes.s3]
  rw [decide_eq_false (by simp : ¬ (0 : Int) ≤ ((([] : List (Int × Int)).length : Nat) : Int) - 1)]
  simp [gapsB]
 | cons y r ih =>
  intro z suf q acc hz hok hd ha hq
  obtain ⟨⟨a1, a2, a3⟩, hy, hd⟩ := hd
  obtain ⟨z1, z2, z3⟩ := hok
  obtain ⟨q, rfl⟩ : ∃ m, q = m + 1 := ⟨q - 1, by omega⟩
  simp only [List.length_cons] at ha hq ⊢
  have hz2 : zs = r.reverse ++ y :: (z :: suf) := by rw [hz, List.reverse_cons, List.append_assoc, List.singleton_append]
  have g1 : zs[r.length]? = some y := by rw [hz2, List.getElem?_append_right (by simp)]; simp
  have g2 : zs[r.length + 1]? = some z := by rw [hz2, List.getElem?_append_right (by simp)]; simp
  have hr : r.length ≤ 1000 := by
   have := congrArg List.length hz2
   rw [List.length_append, List.length_reverse] at this
   omega
  rw [show (((r.length + 1 : Nat) : Int) - 1) = (r.length : Int) by omega]
  simp only [iter, ref04_bytes.s3]
  rw [decide_eq_true (by omega : (0 : Int) ≤ (r.length : Int)), wrap_in ((r.length : Int) + 1) (by omega) (by omega), show (r.length : Int) + 1 = ((r.length + 1 : Nat) : Int) by omega, getI_some g1, getI_some g2]
  simp only [cond_true, Option.bind_some]
  rw [wrap_in (z.1 - y.2) (by omega) (by omega), wrap_in (z.1 - y.2 - 2) (by omega) (by omega), wrap_in (y.2 - y.1) (by omega) (by omega), wrap_in ((r.length : Int) - 1) (by omega) (by omega), rputl_F k (by omega) acc [z.1 - y.2 - 2, y.2 - y.1] (by simp) (by simp only [List.all_cons, List.all_nil, Bool.and_true, Bool.and_eq_true, may_iff]; omega) (by simp only [List.length_cons, List.length_nil]; omega)]
  simp only [Option.bind_some]
  have l1 := wn_le (z.1 - y.2 - 2)
  have l2 := wn_le (y.2 - y.1)
  rw [ih y (z :: suf) q _ hz2 ⟨a1, a2, a3⟩ hd (by simp only [List.flatMap_cons, List.flatMap_nil, List.length_append, List.length_nil]; omega) (by omega)]
  simp only [gapsB, List.flatMap_cons, List.flatMap_nil, List.append_nil, List.append_assoc]
  rw [show z.1 - y.2 - 2 = z.1 - 2 - y.2 by omega]
theorem wn_small (c : Int) (h0 : 0 ≤ c) (h : c < 64) : wn c = [c] := by
 unfold wn szOf
 rw [if_pos h0, if_pos h]
 show putw [] c 0 = [c]
 unfold putw
 show [] ++ (le 1 (c + 0)).reverse = [c]
 simp only [le, List.reverse_singleton, List.nil_append]
 rw [Int.add_zero, Int.emod_eq_of_lt h0 (by omega)]
theorem mk64 {c : Int} (h0 : 0 ≤ c) (h : c < 64) : may c = true := (may_iff _).2 (by omega)
theorem rone8 (k : Nat) (hk : 100 ≤ k) (s o n c : Int) (f : Bool) (d : List Int) (z : List (Int × Int)) (h2 : may s = true) (h3 : may o = true) (h6 : d.length ≤ 1200) : ref04_bytes.F k 8 s o n c f d z = some (oneP (8, s, o, n, c, f, d, z)) := by
 have ho : oneP (8, s, o, n, c, f, d, z) = [bif f then 15 else 14] ++ ([s, o, (d.length : Int)].flatMap wn ++ d) := rfl
 have e : ref04_bytes.F k 8 s o n c f d z = ((ref04_put.F k [] [bif f then 15 else 14, s, o, (d.length : Int)]).bind fun s2_0 => bif decide ((s2_0.length + d.length) * 1 ≤ 140737488355328) then (some (((s2_0 ++ d)))) else none) := by
  unfold ref04_bytes.F
  cases f <;> rfl
 have hw : wn (bif f then 15 else 14) = [bif f then 15 else 14] := by cases f <;> exact wn_small _ (by decide) (by decide)
 rw [ho, e, rput_D k (by omega) [bif f then 15 else 14, s, o, (d.length : Int)] d (by simp) (by cases f <;> simp only [List.all_cons, List.all_nil, h2, h3, may_len h6, cond_true, cond_false, Bool.and_true] <;> exact mk64 (by decide) (by decide)) (by simp) h6, List.flatMap_cons, hw, List.append_assoc]
theorem rone28 (k : Nat) (hk : 100 ≤ k) (s o n c : Int) (f : Bool) (d : List Int) (z : List (Int × Int)) (h5 : may c = true) (h6 : d.length ≤ 1200) : ref04_bytes.F k 28 s o n c f d z = some (oneP (28, s, o, n, c, f, d, z)) := by
 have ho : oneP (28, s, o, n, c, f, d, z) = [28] ++ ([c, (d.length : Int)].flatMap wn ++ d) := rfl
 have e : ref04_bytes.F k 28 s o n c f d z = ((ref04_put.F k [] [28, c, (d.length : Int)]).bind fun s2_0 => bif decide ((s2_0.length + d.length) * 1 ≤ 140737488355328) then (some (((s2_0 ++ d)))) else none) := rfl
 rw [ho, e, rput_D k (by omega) [28, c, (d.length : Int)] d (by simp) (by simp only [List.all_cons, List.all_nil, h5, may_len h6, Bool.and_true]; exact mk64 (by decide) (by decide)) (by simp) h6, List.flatMap_cons, wn_small 28 (by decide) (by decide), List.append_assoc]
theorem rone2 (k : Nat) (hk : 100 ≤ k) (s o n c : Int) (f : Bool) (d : List Int) (z : List (Int × Int)) (h4 : may n = true) (h8 : spansB z = true) : ref04_bytes.F k 2 s o n c f d z = some (oneP (2, s, o, n, c, f, d, z)) := by
 obtain ⟨y, r, hr, hy, hd, hl⟩ := spans_desc h8
 have e : z = r.reverse ++ [y] := by rw [← List.reverse_reverse z, hr, List.reverse_cons]
 have zl : z.length = r.length + 1 := by rw [e]; simp
 have g1 : z[r.length]? = some y := by rw [e, List.getElem?_append_right (by simp)]; simp
 rw [show oneP (2, s, o, n, c, f, d, z) = ackP n z.reverse from rfl, hr]
 obtain ⟨y1, y2, y3⟩ := hy
 have hmay : [2, y.2, n, (r.length : Int), y.2 - y.1].all may = true := by
  simp only [List.all_cons, List.all_nil, Bool.and_true, Bool.and_eq_true]
  exact ⟨mk64 (by omega) (by omega), (may_iff _).2 ⟨by omega, by omega⟩, h4, (may_iff _).2 ⟨by omega, by omega⟩, (may_iff _).2 ⟨by omega, by omega⟩⟩
 unfold ref04_bytes.F
 rw [beq_self_eq_true, cond_true, wrap_in (((z.length : Nat) : Int) - 1) (by omega) (by omega), show ((z.length : Nat) : Int) - 1 = (r.length : Int) by omega, getI_some g1]
 simp only [Option.bind_some]
 rw [wrap_in (y.2 - y.1) (by omega) (by omega), wrap_in (((z.length : Nat) : Int) - 2) (by omega) (by omega), show ((z.length : Nat) : Int) - 2 = (r.length : Int) - 1 by omega, rputl_F k (by omega) [] [2, y.2, n, (r.length : Int), y.2 - y.1] (by simp) hmay (by simp)]
 rw [Option.bind_some, List.nil_append]
 have hw := wns_le [2, y.2, n, (r.length : Int), y.2 - y.1]
 simp only [List.length_cons, List.length_nil] at hw
 have q1 : z.length ≤ 1000 := by omega
 have q2 : ([2, y.2, n, (r.length : Int), y.2 - y.1].flatMap wn).length + 16 * r.length ≤ 100000 := by omega
 have q3 : r.length < k := by omega
 have hg := rgaps k hk z q1 r y [] k ([2, y.2, n, (r.length : Int), y.2 - y.1].flatMap wn) e ⟨y1, y2, y3⟩ hd q2 q3
 rw [hg]
 unfold ackP
 simp only [List.flatMap_cons, List.flatMap_nil, wn_small 2 (by omega) (by omega), List.append_nil, List.append_assoc]
theorem rone_bytes (k : Nat) (hk : 100 ≤ k) (x : Fr) (h : mayB x = true) : ref04_bytes.F k x.1 x.2.1 x.2.2.1 x.2.2.2.1 x.2.2.2.2.1 x.2.2.2.2.2.1 x.2.2.2.2.2.2.1 x.2.2.2.2.2.2.2 = some (oneP x) := by
 obtain ⟨h1, h2, h3, h4, h5, h6, h7, h8⟩ := may_parts h
 obtain ⟨kd, s, o, n, c, f, d, z⟩ := x
 simp only at h2 h3 h4 h5 h6 h7 h8 ⊢
 have mk : ∀ {c : Int}, 0 ≤ c → c < 64 → may c = true := fun a b => (may_iff _).2 (by omega)
 by_cases c2 : kd = 2
 ·subst c2
  exact rone2 k hk s o n c f d z h4 (h8 rfl)
 by_cases c8 : kd = 8
 ·subst c8; exact rone8 k hk s o n c f d z h2 h3 h6
 by_cases c28 : kd = 28
 ·subst c28; exact rone28 k hk s o n c f d z h5 h6
 unfold ref04_bytes.F oneP
 simp only
 rw [beq_eq_false_iff_ne.mpr c2, if_neg c2, cond_false]
 by_cases c4 : kd = 4
 ·subst c4
  rw [rputl_F k (by omega) [] [4, s, c, o] (by simp) (by simp [h2, h3, h5, mk]) (by simp)]
  simp only [List.flatMap_cons, List.flatMap_nil, wn_small 4 (by omega) (by omega), List.nil_append, List.append_nil, Option.bind_some, beq_self_eq_true, Int.reduceBEq, cond_true, cond_false, if_true, true_or, or_true, Int.reduceEq, or_self, if_false]
 rw [beq_eq_false_iff_ne.mpr c4, if_neg c4, cond_false]
 by_cases c5 : kd = 5
 ·subst c5
  rw [rputl_F k (by omega) [] [5, s, c] (by simp) (by simp [h2, h5, mk]) (by simp)]
  simp only [List.flatMap_cons, List.flatMap_nil, wn_small 5 (by omega) (by omega), List.nil_append, List.append_nil, Option.bind_some, beq_self_eq_true, Int.reduceBEq, cond_true, cond_false, if_true, true_or, or_true, Int.reduceEq, or_self, if_false]
 rw [beq_eq_false_iff_ne.mpr c5, if_neg c5, cond_false]
 rw [beq_eq_false_iff_ne.mpr c8, if_neg c8, cond_false]
 by_cases c16 : kd = 16
 ·subst c16
  rw [rputl_F k (by omega) [] [16, n] (by simp) (by simp [h4, mk]) (by simp)]
  simp only [List.flatMap_cons, List.flatMap_nil, wn_small 16 (by omega) (by omega), List.nil_append, List.append_nil, Option.bind_some, beq_self_eq_true, Int.reduceBEq, cond_true, cond_false, if_true, true_or, or_true, Int.reduceEq, or_self, if_false]
 by_cases c18 : kd = 18
 ·subst c18
  rw [rputl_F k (by omega) [] [18, n] (by simp) (by simp [h4, mk]) (by simp)]
  simp only [List.flatMap_cons, List.flatMap_nil, wn_small 18 (by omega) (by omega), List.nil_append, List.append_nil, Option.bind_some, beq_self_eq_true, Int.reduceBEq, cond_true, cond_false, if_true, true_or, or_true, Int.reduceEq, or_self, if_false]
 rw [beq_eq_false_iff_ne.mpr c16, beq_eq_false_iff_ne.mpr c18, cond_false, cond_false]
 by_cases c17 : kd = 17
 ·subst c17
  rw [rputl_F k (by omega) [] [17, s, n] (by simp) (by simp [h2, h4, mk]) (by simp)]
  simp only [List.flatMap_cons, List.flatMap_nil, wn_small 17 (by omega) (by omega), List.nil_append, List.append_nil, Option.bind_some, beq_self_eq_true, Int.reduceBEq, cond_true, cond_false, if_true, true_or, or_true, Int.reduceEq, or_self, if_false]
 rw [beq_eq_false_iff_ne.mpr c17, if_neg c17, if_neg (by omega : ¬ (kd = 16 ∨ kd = 18)), cond_false]
 rw [beq_eq_false_iff_ne.mpr c28, if_neg c28, cond_false]
 unfold shapeB at h1
 simp only [c2, c8, c4, c5, c17, c16, c18, c28, or_self, if_false] at h1
 by_cases c0 : kd = 0 ∨ kd = 1 ∨ kd = 30
 ·rw [rputl_F k (by omega) [] [kd] (by simp) (by simp [mk (by omega : 0 ≤ kd) (by omega)]) (by simp)]
  simp only [List.flatMap_cons, List.flatMap_nil, wn_small kd (by omega) (by omega), List.nil_append, List.append_nil, Option.bind_some, beq_self_eq_true, Int.reduceBEq, cond_true, cond_false, if_true, true_or, or_true, Int.reduceEq, or_self, if_false]
 ·rw [if_neg c0] at h1; cases h1
theorem all_at2 {α ρ : Type} (l : List α) (hl : l.length < 9223372036854775808) (f : Int → Option (Sum Int ρ)) (p : α → Bool) (yes no : ρ) (hs : ∀ (j : Nat) x, l[j]? = some x → f j = some (bif p x then .inl (IntKind.wrap IntKind.i64 ((j : Int) + 1)) else .inr no)) (he : l.all p = true → f (l.length : Nat) = some (.inr yes)) : ∀ (k : Nat) (j : Nat), j ≤ l.length → l.length - j < k → (l.take j).all p = true → iter f k (j : Int) = some (bif (l.drop j).all p then yes else no) := by
 intro k
 induction k with
 | zero => intro j _ h; omega
 | succ k ih =>
  intro j hj hk ht
  rcases Nat.lt_or_ge j l.length with h | h
  ·rw [List.drop_eq_getElem_cons h]
   simp only [iter, List.all_cons]
   rw [hs j _ (List.getElem?_eq_getElem h)]
   cases hq : p l[j] with
   | false => rfl
   | true =>
    have h1 := ih (j + 1) h (by omega) (by rw [List.take_succ_eq_append_getElem h, List.all_append, ht, List.all_cons, hq]; rfl)
    rw [wrap_in _ (by omega) (by omega)]
    exact h1
  ·have : j = l.length := by omega
   subst this
   rw [List.take_length] at ht
   rw [List.drop_length]
   simp only [iter]
   rw [he ht]
   rfl
theorem rEncode_F (k : Nat) (l : List Fr) (hf : Fits k l) (hb : Bys l) (hk : 100 ≤ k) : ref04_Encode.F k l = some (encP l) := by
 unfold ref04_Encode.F encP
 by_cases h64 : 64 < l.length
 ·rw [decide_eq_true (by omega : (64 : Int) < ((l.length : Nat) : Int)), if_pos h64]; rfl
 rw [decide_eq_false (by omega : ¬ (64 : Int) < ((l.length : Nat) : Int)), if_neg h64, cond_false]
 have hend : l.all mayB = true → ref04_Encode.s0 k l ((l.length : Nat) : Int) = some (.inr (if 1200 < (l.flatMap oneP).length then ([], 6) else (l.flatMap oneP, 0))) := by
  intro hm
  have hlen := ones_len l hm
  unfold ref04_Encode.s0
  rw [decide_eq_false (by omega : ¬ ((l.length : Nat) : Int) < ((l.length : Nat) : Int)), cond_false]
  have : iter (ref04_Encode.s1 k l) k ([], 0) = _ := iter_idx l (ref04_Encode.s1 k l) (fun j (t : List Int) => (t, (j : Int))) (fun t x => bif decide ((t.length + (oneP x).length) * 1 ≤ 140737488355328) then some (.inl (t ++ oneP x)) else none) (fun t => some (.inr (if 1200 < t.length then ([], 6) else (t, 0)))) (fun j t x hx hj => by
   unfold ref04_Encode.s1
   simp only
   rw [decide_eq_true (by omega : (j : Int) < ((l.length : Nat) : Int)), getI_some hx]
   simp only [cond_true, Option.bind_some]
   rw [rone_bytes k (by omega) x (List.all_eq_true.1 hm x (List.mem_of_getElem? hx))]
   simp only [Option.bind_some]
   rw [wrap_in ((j : Int) + 1) (by omega) (by omega)]
   cases decide ((t.length + (oneP x).length) * 1 ≤ 140737488355328) <;> rfl) (fun t => by
   unfold ref04_Encode.s1
   simp only
   rw [decide_eq_false (by omega : ¬ ((l.length : Nat) : Int) < ((l.length : Nat) : Int))]
   by_cases ht : 1200 < t.length
   ·rw [decide_eq_true (by omega : (1200 : Int) < ((t.length : Nat) : Int)), if_pos ht]; rfl
   ·rw [decide_eq_false (by omega : ¬ (1200 : Int) < ((t.length : Nat) : Int)), if_neg ht]; rfl) k [] (by omega)
  rw [this, enc_fold _ l [] (by rw [List.length_nil]; omega)]
  rfl
 have := all_at2 l (by omega) (ref04_Encode.s0 k l) mayB (if 1200 < (l.flatMap oneP).length then ([], 6) else (l.flatMap oneP, 0)) ([], 1) (fun j x hx => by
  have hj := (List.getElem?_eq_some_iff.1 hx).1
  have mx := List.mem_of_getElem? hx
  have he := hf.el x mx
  unfold ref04_Encode.s0
  rw [decide_eq_true (by omega : (j : Int) < ((l.length : Nat) : Int)), getI_some hx]
  simp only [cond_true, Option.bind_some]
  rw [rmay_F k x (hb x mx) he.1 he.2.2.2 he.2.1]
  simp only [Option.bind_some]
  cases mayB x <;> rfl) hend k 0 (Nat.zero_le _) (by have := hf.len; omega) rfl
 rw [List.drop_zero] at this
 rw [show ((0 : Nat) : Int) = 0 from rfl] at this
 rw [this]
 cases hm : l.all mayB with
 | true => rfl
 | false => rfl
theorem asks_eq (k : Nat) (x : Fr) : ∃ a, frames_Asks.F k x.1 x.2.1 x.2.2.1 x.2.2.2.1 x.2.2.2.2.1 x.2.2.2.2.2.1 x.2.2.2.2.2.2.1 x.2.2.2.2.2.2.2 = some a ∧ ref04_Asks.F k x.1 x.2.1 x.2.2.1 x.2.2.2.1 x.2.2.2.2.1 x.2.2.2.2.2.1 x.2.2.2.2.2.2.1 x.2.2.2.2.2.2.2 = some a := by
 unfold frames_Asks.F ref04_Asks.F bne
 generalize (x.1 == 0) = a
 generalize (x.1 == 2) = b
 generalize (x.1 == 28) = c
 cases a <;> cases b <;> cases c <;> exact ⟨_, rfl, rfl⟩
theorem writes_F {k : Nat} (hk : 1250 ≤ k) (l m : List Fr) (hf : Fits k l) (hb : Bys l) (hf2 : Fits k m) (hb2 : Bys m) : law04_FramesWrites.F k l m = some true := by
 unfold law04_FramesWrites.F
 have hby : Bytes (encP l).1 := by
  rcases enc_cases l with ⟨h1, hm, h64, hl⟩ | ⟨e, he, h1⟩
  ·rw [h1]; exact ones_bytes l hm hb
  ·rw [h1]; exact nilB
 rw [Encode_F k l hf (by omega), rEncode_F k l hf hb (by omega)]
 simp only [Option.bind_some]
 rw [rbytes_F k hby hby, decide_eq_true rfl]
 have hne : ((encP l).2 != (encP l).2) = false := by simp
 rw [hne]
 simp only [Option.bind_some, cond_true, cond_false]
 rw [fsame_F k l m hf, rsame_F k l m hf hb hb2, fsame_F k l l hf, decide_eq_true (rfl : l = l)]
 simp only [Option.bind_some, cond_true]
 have hall : ∀ (s : Int → Option (Sum Int Bool)), (∀ (j : Nat) x, l[j]? = some x → s j = some (bif true then .inl (IntKind.wrap IntKind.i64 ((j : Int) + 1)) else .inr false)) → s ((l.length : Nat) : Int) = some (.inr true) → iter s k 0 = some true := fun s h1 h2 => by
  rw [all_idx l hf.len.1 s (fun _ => true) true false h1 h2 k (by have := hf.len; omega)]
  simp
 have r1 : iter (law04_FramesWrites.s6 k l) k 0 = some true := hall _ (fun j x hx => by
  have hj := (List.getElem?_eq_some_iff.1 hx).1
  have mx := List.mem_of_getElem? hx
  have he := hf.el x mx
  obtain ⟨a, ha1, ha2⟩ := asks_eq k x
  unfold law04_FramesWrites.s6
  rw [decide_eq_true (by omega : (j : Int) < ((l.length : Nat) : Int)), getI_some hx]
  simp only [cond_true, Option.bind_some]
  rw [may_F k x he.1 he.2.2.2 he.2.1, rmay_F k x (hb x mx) he.1 he.2.2.2 he.2.1, ha1, ha2]
  simp only [Option.bind_some]
  cases decide ((j : Int) < 100) <;> cases mayB x <;> cases a <;> rfl) (by
  unfold law04_FramesWrites.s6
  rw [decide_eq_false (by omega : ¬ ((l.length : Nat) : Int) < ((l.length : Nat) : Int)), alive_F hk]
  rfl)
 have r2 : iter (law04_FramesWrites.s6b k l) k 0 = some true := hall _ (fun j x hx => by
  have hj := (List.getElem?_eq_some_iff.1 hx).1
  have mx := List.mem_of_getElem? hx
  have he := hf.el x mx
  obtain ⟨a, ha1, ha2⟩ := asks_eq k x
  unfold law04_FramesWrites.s6b
  rw [decide_eq_true (by omega : (j : Int) < ((l.length : Nat) : Int)), getI_some hx]
  simp only [cond_true, Option.bind_some]
  rw [may_F k x he.1 he.2.2.2 he.2.1, rmay_F k x (hb x mx) he.1 he.2.2.2 he.2.1, ha1, ha2]
  simp only [Option.bind_some]
  cases decide ((j : Int) < 100) <;> cases mayB x <;> cases a <;> rfl) (by
  unfold law04_FramesWrites.s6b
  rw [decide_eq_false (by omega : ¬ ((l.length : Nat) : Int) < ((l.length : Nat) : Int)), alive_F hk]
  rfl)
 rw [r1, r2]
 cases decide (l = m) <;> rfl
end Go.Proofs.Ytpdchohbmmfemaa.X
