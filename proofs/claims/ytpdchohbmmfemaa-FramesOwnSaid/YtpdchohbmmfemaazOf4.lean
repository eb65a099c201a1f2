import Derived.Test.YtpdchohbmmfemaazFp10
import Derived.Test.YtpdchohbmmfemaazRd1
namespace Go.Proofs.Ytpdchohbmmfemaa.X
open Go Go.RowKit Go.Proofs.YtpdchohbmmfemaaW.Rx Go.Proofs.Ytpdchohbmmfemaa.Plain Go.Proofs.YtpdchohbmmfemaaW.PrintWords
set_option linter.unusedVariables false
set_option linter.unusedSimpArgs false
set_option linter.unusedSectionVars false
theorem rget_at (b : List Int) (hb : Bytes b) (hl : b.length ≤ 140737488351232) (a r4 w : Int) (hwe : IntKind.i64.wrap (1 * 2 ^ min (Int.toNat (Int.fdiv r4 (2 ^ 6))) 64) = w) (ha : 0 ≤ a) (hw : w ≤ 8) (haw : a + w ≤ b.length) (k : Nat) (d : Nat) : ∀ (q : Nat) (n i : Int), 1 ≤ i → i ≤ w → w - i = d → d < q → 0 ≤ n → n < 64 * 256 ^ (i - 1).toNat →
  iter (ref01_Get.s2 k a b r4) q (n, i) = some (num n ((b.drop (a + i).toNat).take (w - i).toNat), a + w, 0, 0) := by
 induction d with
 | zero =>
  intro q n i h0 h1 hd hq hn hn'
  obtain ⟨q, rfl⟩ : ∃ m, q = m + 1 := ⟨q - 1, by omega⟩
  simp only [iter, ref01_Get.s2, hwe]
  rw [decide_eq_false (by omega : ¬ i < w), wrap_in (a + w) (by omega) (by omega), show (w - i).toNat = 0 from by omega]
  rfl
 | succ d ih =>
  intro q n i h0 h1 hd hq hn hn'
  obtain ⟨q, rfl⟩ : ∃ m, q = m + 1 := ⟨q - 1, by omega⟩
  have hb' := rd_byte hb (a + i) (by omega) (by omega)
  have hp := pow256 (i - 1).toNat (by omega)
  simp only [iter, ref01_Get.s2, hwe]
  rw [decide_eq_true (by omega : i < w), wrap_in (a + i) (by omega) (by omega), getI_rd b (a + i) (by omega) (by omega)]
  simp only [cond_true, Option.bind_some]
  rw [wrap_in (n * 256) (by omega) (by omega), wrap_in (rd b (a + i)) (by omega) (by omega), wrap_in (n * 256 + _) (by omega) (by omega), wrap_in (i + 1) (by omega) (by omega)]
  rw [ih q _ (i + 1) (by omega) (by omega) (by omega) (by omega) (by omega) (by rw [show (i + 1 - 1).toNat = (i - 1).toNat + 1 from by omega, Int.pow_succ]; omega)]
  rw [rd_drop b (a + i) (by omega) (by omega), show (w - i).toNat = (w - (i + 1)).toNat + 1 from by omega, List.take_succ_cons, show a + (i + 1) = a + i + 1 from by omega]
  rfl
theorem rget_F (b : List Int) (hb : Bytes b) (hl : b.length ≤ 140737488351232) (i : Int) (hi : -9223372036854775808 ≤ i ∧ i ≤ 9223372036854775807) (k : Nat) (hk : 40 < k) : ref01_Get.F k b i = some (Plain.get b i) := by
 unfold ref01_Get.F Plain.get
 by_cases c1 : i < 0
 ·rw [decide_eq_true c1, if_pos (Or.inl c1)]; rfl
 rw [decide_eq_false c1]
 by_cases c2 : i > b.length
 ·rw [decide_eq_true c2, if_pos (Or.inr c2)]; rfl
 rw [decide_eq_false c2, if_neg (by omega)]
 simp only [cond_false]
 by_cases c3 : i = b.length
 ·rw [if_pos c3, beq_iff_eq.2 c3]; rfl
 rw [if_neg c3, beq_eq_false_iff_ne.2 c3]
 have hc := rd_byte hb i (by omega) (by omega)
 have hw := width_bd (rd b i)
 simp only [cond_false, getI_rd b i (by omega) (by omega), Option.bind_some]
 have hf := fdiv64 (rd b i)
 have hsh : IntKind.i64.wrap (1 * 2 ^ min (Int.toNat (Int.fdiv (rd b i) (2 ^ 6))) 64) = widthOf (rd b i) := by rw [hf]; exact shl1 hc.1 hc.2
 rw [decide_eq_true (by rw [hf]; omega : 0 ≤ Int.fdiv (rd b i) (2 ^ 6)), hsh, wrap_in ((b.length : Int) - i) (by omega) (by omega)]
 simp only [cond_true]
 by_cases c4 : (b.length : Int) - i < widthOf (rd b i)
 ·rw [decide_eq_true c4, if_pos c4]; rfl
 rw [decide_eq_false c4, if_neg c4]
 simp only [cond_false]
 have h63 : IntKind.i64.wrap (IntKind.wrap IntKind.u8 (((BitVec.toNat (BitVec.ofInt 8 (rd b i) &&& BitVec.ofInt 8 63)) : Nat) : Int)) = rd b i % 64 := by rw [b_and8, wrap_i64]; exact and63 hc.1 hc.2
 rw [h63, rget_at b hb hl i (rd b i) _ hsh (by omega) (by omega) (by omega) k (widthOf (rd b i) - 1).toNat k _ 1 (by omega) (by omega) (by omega) (by omega) (by omega) (by simp; omega)]
abbrev St := List Int × Int × Int × Int
def putS (v : Fr) (s : St) : Int × Int × Int × Int × Int × Bool × List Int × List (Int × Int) × St := (v.1, v.2.1, v.2.2.1, v.2.2.2.1, v.2.2.2.2.1, v.2.2.2.2.2.1, v.2.2.2.2.2.2.1, v.2.2.2.2.2.2.2, s)
def RelF (b : List Int) (x : Ex (Fr × Int)) (o : Option (Int × Int × Int × Int × Int × Bool × List Int × List (Int × Int) × St)) : Prop := match x with
 | .ok r => o = some (putS r.1 (b, r.2, 0, 0))
 | .error z => z.1 ≠ 0 ∧ ∃ v p, o = some (putS v (b, p, z.1, z.2))
section
variable {k : Nat} {b : List Int} (hk : 1250 ≤ k) (hb : Bytes b) (hl : b.length ≤ 1200)
theorem rok_0 {p a : Int} : r4_ok.F k (b, p, 0, a) = some (true, (b, p, 0, a)) := rfl
theorem rok_Z {p e a : Int} (h : e ≠ 0) : r4_ok.F k (b, p, e, a) = some (false, (b, p, e, a)) := by
 unfold r4_ok.F
 rw [beq_eq_false_iff_ne.2 h]; rfl
theorem rfails_0 {p a e x : Int} : r4_fails.F k (b, p, 0, a) e x = some (b, p, e, x) := rfl
theorem rfails_Z {p e a x y : Int} (h : e ≠ 0) : r4_fails.F k (b, p, e, a) x y = some (b, p, e, a) := by
 unfold r4_fails.F
 rw [rok_Z h]; rfl
theorem rnum_Z {p e a : Int} (h : e ≠ 0) : r4_number.F k (b, p, e, a) = some (0, (b, p, e, a)) := by
 unfold r4_number.F
 rw [rok_Z h]; rfl
theorem rtake_Z {p e a n : Int} (h : e ≠ 0) : r4_take.F k (b, p, e, a) n = some ([], (b, p, e, a)) := by
 unfold r4_take.F
 rw [rok_Z h]; rfl
include hk hb hl
theorem rnum_R {p : Int} (h0 : 0 ≤ p) (h1 : p ≤ b.length) : (∃ r, numR b p = .ok r ∧ r4_number.F k (b, p, 0, 0) = some (r.1, (b, r.2, 0, 0))) ∨ ∃ z, numR b p = .error z ∧ z.1 ≠ 0 ∧ r4_number.F k (b, p, 0, 0) = some (0, (b, p, z.1, z.2)) := by
 unfold r4_number.F numR
 rw [rok_0]
 simp only [Option.bind_some, cond_true]
 rw [rget_F b hb (by omega) p (by omega) k (by omega)]
 simp only [Option.bind_some]
 have hz : (Plain.get b p).2.2.1 = 0 → (Plain.get b p).2.2.2 = 0 := by
  unfold Plain.get
  split
  ·intro h; cases h
  ·split
   ·intro h; cases h
   ·split
    ·intro h; cases h
    ·intro _; rfl
 by_cases hc : (Plain.get b p).2.2.1 = 0
 ·left
  rw [if_pos ⟨hc, hz hc⟩]
  refine ⟨_, rfl, ?_⟩
  rw [hc]
  rfl
 ·right
  rw [if_neg (fun h => hc h.1)]
  refine ⟨_, rfl, hc, ?_⟩
  have : ((Plain.get b p).2.2.1 != 0) = true := bne_iff_ne.2 hc
  rw [this]
  rfl
theorem rtake_R {p n : Int} (h0 : 0 ≤ p) (h1 : p ≤ b.length) (hn : 0 ≤ n) (hn2 : n ≤ 4611686018427387903) : (∃ r, takeR b p n = .ok r ∧ r4_take.F k (b, p, 0, 0) n = some (r.1, (b, r.2, 0, 0))) ∨ ∃ z, takeR b p n = .error z ∧ z.1 ≠ 0 ∧ r4_take.F k (b, p, 0, 0) n = some ([], (b, p, z.1, z.2)) := by
 unfold r4_take.F takeR
 rw [rok_0]
 simp only [Option.bind_some, cond_true]
 rw [wrap_in ((b.length : Int) - p) (by omega) (by omega)]
 by_cases hc : n ≤ (b.length : Int) - p
 ·left
  rw [if_pos hc, decide_eq_false (by omega : ¬ (b.length : Int) - p < n), wrap_in (p + n) (by omega) (by omega)]
  simp only [cond_false]
  rw [decide_eq_true (by omega : (0 : Int) ≤ p ∧ p ≤ p + n ∧ p + n ≤ (b.length : Int))]
  simp only [cond_true, List.length_nil, List.nil_append]
  rw [decide_eq_true (by rw [List.length_take, List.length_drop]; omega)]
  refine ⟨_, rfl, ?_⟩
  rw [show Int.toNat (p + n) - Int.toNat p = n.toNat by omega]
  rfl
 ·right
  rw [if_neg hc, decide_eq_true (by omega : (b.length : Int) - p < n)]
  exact ⟨_, rfl, (show (3 : Int) ≠ 0 by decide), rfl⟩
theorem rack_Z {m : Int} {low i n : Int} {acc : List (Int × Int)} {p e a : Int} (q : Nat) (h : e ≠ 0) : iter (r4_ack.s4 k m) (q + 1) (low, i, 2, 0, 0, n, 0, false, [], acc, (b, p, e, a)) = some (putS (2, 0, 0, n, 0, false, [], acc) (b, p, e, a)) := by
 simp only [iter, r4_ack.s4]
 cases decide (i ≤ m)
 ·rfl
 ·simp only [cond_true, rok_Z h, Option.bind_some, cond_false]
  rfl
theorem rack_Z5 {m : Int} {low i n : Int} {acc : List (Int × Int)} {p e a : Int} (q : Nat) (h : e ≠ 0) : iter (r4_ack.s5 k m) (q + 1) (low, i, 2, 0, 0, n, 0, false, [], acc, (b, p, e, a)) = some (putS (2, 0, 0, n, 0, false, [], acc) (b, p, e, a)) := by
 simp only [iter, r4_ack.s5]
 cases decide (i ≤ m)
 ·rfl
 ·simp only [cond_true, rok_Z h, Option.bind_some, cond_false]
  rfl
theorem rackL_F (n m : Int) (hm : m ≤ 31) (c : Nat) : ∀ (q : Nat) (low : Int) (i : Int) (p : Int) (acc : List (Int × Int)), 1 ≤ i → i + c = m + 1 → c + 1 < q → low ≤ 4611686018427387903 → -4611686018427387903 ≤ low → 0 ≤ p → p ≤ b.length → (acc.length : Int) ≤ i →
  RelF b ((ackL b c low p acc).map fun r => ((2, 0, 0, n, 0, false, [], r.1.reverse), r.2)) (iter (r4_ack.s4 k m) q (low, i, 2, 0, 0, n, 0, false, [], acc.reverse, (b, p, 0, 0))) := by
 induction c with
 | zero =>
  intro q low i p acc hi hic hq h0 h1 hp0 hp1 ha
  obtain ⟨q, rfl⟩ : ∃ j, q = j + 1 := ⟨q - 1, by omega⟩
  simp only [iter, r4_ack.s4]
  rw [decide_eq_false (by omega : ¬ i ≤ m)]
  rfl
 | succ c ih =>
  intro q low i p acc hi hic hq h0 h1 hp0 hp1 ha
  obtain ⟨q, rfl⟩ : ∃ j, q = j + 1 + 1 := ⟨q - 2, by omega⟩
  rw [iter]
  simp only [r4_ack.s4]
  rw [decide_eq_true (by omega : i ≤ m), rok_0]
  simp only [cond_true, Option.bind_some]
  rw [decide_eq_true (by omega : 0 < i), wrap_in (low - 2) (by omega) (by omega)]
  simp only [cond_true]
  unfold ackL belowR
  rcases rnum_R hk hb hl hp0 hp1 with ⟨g, hg, hF⟩ | ⟨z, hz, hz0, hF⟩
  ·obtain ⟨g1, g2⟩ := g
   have eg := get_ok hb hg
   simp only at eg
   simp only [hg, hF, Option.bind_some, Except.bind]
   rw [wrap_in (low - 2 - g1) (by omega) (by omega)]
   by_cases hc : g1 ≤ low - 2
   ·rw [decide_eq_false (by omega : ¬ low - 2 < g1), if_pos hc]
    simp only [cond_false]
    rcases rnum_R hk hb hl (by omega : 0 ≤ g2) (by omega) with ⟨v, hv, hF2⟩ | ⟨z, hz, hz0, hF2⟩
    ·obtain ⟨v1, v2⟩ := v
     have ev := get_ok hb hv
     simp only at ev
     simp only [hv, hF2, Option.bind_some, Except.bind]
     by_cases hd : v1 ≤ low - 2 - g1
     ·rw [decide_eq_false (by omega : ¬ low - 2 - g1 < v1), if_pos hd, rok_0]
      simp only [cond_false, cond_true, Option.bind_some]
      rw [wrap_in (low - 2 - g1 - v1) (by omega) (by omega), wrap_in (i + 1) (by omega) (by omega), decide_eq_true (by simp only [List.length_cons, List.length_nil, List.length_reverse]; omega)]
      simp only [cond_true]
      have := ih (q + 1) (low - 2 - g1 - v1) (i + 1) v2 (acc ++ [(low - 2 - g1 - v1, low - 2 - g1)]) (by omega) (by omega) (by omega) (by omega) (by omega) (by omega) (by omega) (by rw [List.length_append, List.length_singleton]; omega)
      rw [List.reverse_append] at this
      exact this
     ·rw [decide_eq_true (by omega : low - 2 - g1 < v1), if_neg hd, rfails_0]
      simp only [cond_false, cond_true, Option.bind_some, rok_Z (show (5 : Int) ≠ 0 by decide)]
      exact ⟨(show (5 : Int) ≠ 0 by decide), _, _, rack_Z hk hb hl q (by decide)⟩
    ·simp only [hz, hF2, Option.bind_some, Except.bind, rfails_Z hz0, rok_Z hz0, cond_false, Bool.cond_self]
     exact ⟨hz0, _, _, rack_Z hk hb hl q hz0⟩
   ·rw [decide_eq_true (by omega : low - 2 < g1), if_neg hc, rfails_0]
    simp only [cond_true, Option.bind_some, rnum_Z (show (5 : Int) ≠ 0 by decide), rfails_Z (show (5 : Int) ≠ 0 by decide), rok_Z (show (5 : Int) ≠ 0 by decide), cond_false, Bool.cond_self]
    exact ⟨(show (5 : Int) ≠ 0 by decide), _, _, rack_Z hk hb hl q (by decide)⟩
  ·simp only [hz, hF, Option.bind_some, Except.bind, rnum_Z hz0, rfails_Z hz0, rok_Z hz0, cond_false, Bool.cond_self]
   exact ⟨hz0, _, _, rack_Z hk hb hl q hz0⟩
theorem rack_F {p : Int} (h0 : 0 ≤ p) (h1 : p ≤ b.length) : RelF b (ackR b p) (r4_ack.F k (b, p, 0, 0)) := by
 obtain ⟨q, rfl⟩ : ∃ j, k = j + 1 + 1 := ⟨k - 2, by omega⟩
 unfold r4_ack.F ackR
 have c32 : decide ((32 : Int) ≤ 0) = false := rfl
 have c00 : decide ((0 : Int) ≤ 0) = true := rfl
 rcases rnum_R hk hb hl h0 h1 with ⟨t, ht, hF⟩ | ⟨z, hz, hz0, hF⟩
 ·obtain ⟨t1, t2⟩ := t
  have et := get_ok hb ht
  simp only at et
  simp only [ht, hF, Option.bind_some, Except.bind]
  rcases rnum_R hk hb hl (by omega : 0 ≤ t2) (by omega) with ⟨n, hn, hF2⟩ | ⟨z, hz, hz0, hF2⟩
  ·obtain ⟨n1, n2⟩ := n
   have en := get_ok hb hn
   simp only at en
   simp only [hn, hF2, Option.bind_some, Except.bind]
   unfold belowR
   rcases rnum_R hk hb hl (by omega : 0 ≤ n2) (by omega) with ⟨m, hm, hF3⟩ | ⟨z, hz, hz0, hF3⟩
   ·obtain ⟨m1, m2⟩ := m
    have em := get_ok hb hm
    simp only at em
    simp only [hm, hF3, Option.bind_some, Except.bind]
    by_cases hc : m1 ≤ 31
    ·rw [decide_eq_false (by omega : ¬ (32 : Int) ≤ m1), if_pos hc, cond_false, iter]
     simp only [r4_ack.s4]
     rw [decide_eq_true (by omega : 0 ≤ m1), rok_0]
     simp only [cond_true, Option.bind_some]
     rw [decide_eq_false (by omega : ¬ (0 : Int) < 0)]
     simp only [cond_false]
     rcases rnum_R hk hb hl (by omega : 0 ≤ m2) (by omega) with ⟨f, hf, hF4⟩ | ⟨z, hz, hz0, hF4⟩
     ·obtain ⟨f1, f2⟩ := f
      have ef := get_ok hb hf
      simp only at ef
      simp only [hf, hF4, Option.bind_some]
      by_cases hd : f1 ≤ t1
      ·rw [decide_eq_false (by omega : ¬ t1 < f1), if_pos hd, rok_0]
       simp only [cond_false, cond_true, Option.bind_some]
       rw [wrap_in (t1 - f1) (by omega) (by omega), wrap_in (0 + 1) (by omega) (by omega), decide_eq_true (by simp)]
       simp only [cond_true]
       have := rackL_F hk hb hl n1 m1 hc m1.toNat (q + 1) (t1 - f1) 1 f2 [(t1 - f1, t1)] (by omega) (by omega) (by omega) (by omega) (by omega) (by omega) (by omega) (by simp)
       cases hL : ackL b m1.toNat (t1 - f1) f2 [(t1 - f1, t1)] with
       | error z => rw [hL] at this; exact this
       | ok r => rw [hL] at this; exact this
      ·rw [decide_eq_true (by omega : t1 < f1), if_neg hd, rfails_0]
       simp only [cond_true, Option.bind_some, rok_Z (show (5 : Int) ≠ 0 by decide), cond_false]
       exact ⟨(show (5 : Int) ≠ 0 by decide), _, _, rack_Z hk hb hl q (by decide)⟩
     ·simp only [hz, hF4, Option.bind_some, rfails_Z hz0, rok_Z hz0, cond_false, Bool.cond_self]
      exact ⟨hz0, _, _, rack_Z hk hb hl q hz0⟩
    ·rw [decide_eq_true (by omega : (32 : Int) ≤ m1), if_neg hc, rfails_0]
     simp only [cond_true, Option.bind_some]
     exact ⟨(show (6 : Int) ≠ 0 by decide), _, _, rack_Z5 hk hb hl (q + 1) (by decide)⟩
   ·simp only [hz, hF3, Option.bind_some, Except.bind, c32, cond_false]
    exact ⟨hz0, _, _, rack_Z hk hb hl (q + 1) hz0⟩
  ·simp only [hz, hF2, Option.bind_some, Except.bind, rnum_Z hz0, c32, cond_false]
   exact ⟨hz0, _, _, rack_Z hk hb hl (q + 1) hz0⟩
 ·simp only [hz, hF, Option.bind_some, Except.bind, rnum_Z hz0, c32, cond_false]
  exact ⟨hz0, _, _, rack_Z hk hb hl (q + 1) hz0⟩
end
end Go.Proofs.Ytpdchohbmmfemaa.X
namespace Go.Proofs.Ytpdchohbmmfemaa.X
open Go Go.RowKit Go.Proofs.YtpdchohbmmfemaaW.Rx Go.Proofs.Ytpdchohbmmfemaa.Plain Go.Proofs.YtpdchohbmmfemaaW.PrintWords
set_option linter.unusedVariables false
set_option linter.unusedSimpArgs false
set_option linter.unusedSectionVars false
set_option maxRecDepth 10000
theorem relF_eta {b : List Int} {x : Ex (Fr × Int)} {o : Option (Int × Int × Int × Int × Int × Bool × List Int × List (Int × Int) × St)} (h : RelF b x o) : RelF b x (o.bind fun (v4_0, v4_1, v4_2, v4_3, v4_4, v4_5, s4_6, s4_7, qc4) => some ((v4_0, v4_1, v4_2, v4_3, v4_4, v4_5, s4_6, s4_7, qc4))) := by
 cases o with
 | none => exact h
 | some v => exact h
section
variable {k : Nat} {b : List Int} (hk : 1250 ≤ k) (hb : Bytes b) (hl : b.length ≤ 1200)
include hk hb hl
theorem rstr_end {q s o n p0 : Int} (fin : Bool) (h0 : 0 ≤ q) (h1 : q ≤ b.length) (hn : 0 ≤ n) (hn2 : n ≤ 4611686018427387903) (ho : 0 ≤ o) (ho2 : o ≤ 4611686018427387903) :
  RelF b (if n ≤ 4611686018427387903 - o then (takeR b q n).bind fun d => .ok ((8, s, o, 0, 0, fin, d.1, []), d.2) else .error (7, p0)) ((r4_ok.F k (b, q, 0, 0)).bind fun (v5_0, qc5) => bif v5_0 then (bif decide (IntKind.i64.wrap (4611686018427387903 - o) < n) then ((r4_fails.F k qc5 7 p0).bind fun qc6 => (r4_take.F k qc6 (n)).bind fun (s7_0, qc7) => some ((8, s, o, 0, 0, fin, s7_0, [], qc7))) else ((r4_take.F k qc5 (n)).bind fun (s6_0, qc6) => some ((8, s, o, 0, 0, fin, s6_0, [], qc6)))) else ((r4_take.F k qc5 (n)).bind fun (s6_0, qc6) => some ((8, s, o, 0, 0, fin, s6_0, ([] : List (Int × Int)), qc6)))) := by
 rw [rok_0]
 simp only [Option.bind_some, cond_true]
 rw [wrap_in (4611686018427387903 - o) (by omega) (by omega)]
 by_cases hc : n ≤ 4611686018427387903 - o
 ·rw [decide_eq_false (by omega : ¬ 4611686018427387903 - o < n), if_pos hc]
  simp only [cond_false]
  rcases rtake_R hk hb hl h0 h1 hn hn2 with ⟨d, hd, hF⟩ | ⟨z, hz, hz0, hF⟩
  ·simp only [hd, hF, Option.bind_some, Except.bind]; rfl
  ·simp only [hz, hF, Option.bind_some, Except.bind]
   exact ⟨hz0, (8, s, o, 0, 0, fin, [], []), _, rfl⟩
 ·rw [decide_eq_true (by omega : 4611686018427387903 - o < n), if_neg hc, rfails_0]
  simp only [cond_true, Option.bind_some, rtake_Z (show (7 : Int) ≠ 0 by decide)]
  exact ⟨(show (7 : Int) ≠ 0 by decide), (8, s, o, 0, 0, fin, [], []), _, rfl⟩
theorem rstr_F {p kind p0 : Int} (h0 : 0 ≤ p) (h1 : p ≤ b.length) (hk8 : kind / 8 = 1) : RelF b (streamR b kind p0 p) (r4_stream.F k (b, p, 0, 0) kind p0) := by
  have hkk : kind = 8 ∨ kind = 9 ∨ kind = 10 ∨ kind = 11 ∨ kind = 12 ∨ kind = 13 ∨ kind = 14 ∨ kind = 15 := by omega
  unfold r4_stream.F streamR
  rcases rnum_R hk hb hl h0 h1 with ⟨s, hs, hF⟩ | ⟨z, hz, hz0, hF⟩
  case inr =>
    rcases hkk with rfl | rfl | rfl | rfl | rfl | rfl | rfl | rfl <;>
      (simp only [hz, hF, Option.bind_some, Except.bind, show (IntKind.i64.wrap (((BitVec.toNat (BitVec.ofInt 64 8 &&& BitVec.ofInt 64 1)) : Nat) : Int) == 1) = false from rfl, show (IntKind.i64.wrap (((BitVec.toNat (BitVec.ofInt 64 8 &&& BitVec.ofInt 64 4)) : Nat) : Int) != 0) = false from rfl, show (IntKind.i64.wrap (((BitVec.toNat (BitVec.ofInt 64 8 &&& BitVec.ofInt 64 2)) : Nat) : Int) != 0) = false from rfl, show (IntKind.i64.wrap (((BitVec.toNat (BitVec.ofInt 64 9 &&& BitVec.ofInt 64 1)) : Nat) : Int) == 1) = true from rfl, show (IntKind.i64.wrap (((BitVec.toNat (BitVec.ofInt 64 9 &&& BitVec.ofInt 64 4)) : Nat) : Int) != 0) = false from rfl, show (IntKind.i64.wrap (((BitVec.toNat (BitVec.ofInt 64 9 &&& BitVec.ofInt 64 2)) : Nat) : Int) != 0) = false from rfl, show (IntKind.i64.wrap (((BitVec.toNat (BitVec.ofInt 64 10 &&& BitVec.ofInt 64 1)) : Nat) : Int) == 1) = false from rfl, show (IntKind.i64.wrap (((BitVec.toNat (BitVec.ofInt 64 10 &&& BitVec.ofInt 64 4)) : Nat) : Int) != 0) = false from rfl, show (IntKind.i64.wrap (((BitVec.toNat (BitVec.ofInt 64 10 &&& BitVec.ofInt 64 2)) : Nat) : Int) != 0) = true from rfl, show (IntKind.i64.wrap (((BitVec.toNat (BitVec.ofInt 64 11 &&& BitVec.ofInt 64 1)) : Nat) : Int) == 1) = true from rfl, show (IntKind.i64.wrap (((BitVec.toNat (BitVec.ofInt 64 11 &&& BitVec.ofInt 64 4)) : Nat) : Int) != 0) = false from rfl, show (IntKind.i64.wrap (((BitVec.toNat (BitVec.ofInt 64 11 &&& BitVec.ofInt 64 2)) : Nat) : Int) != 0) = true from rfl, show (IntKind.i64.wrap (((BitVec.toNat (BitVec.ofInt 64 12 &&& BitVec.ofInt 64 1)) : Nat) : Int) == 1) = false from rfl, show (IntKind.i64.wrap (((BitVec.toNat (BitVec.ofInt 64 12 &&& BitVec.ofInt 64 4)) : Nat) : Int) != 0) = true from rfl, show (IntKind.i64.wrap (((BitVec.toNat (BitVec.ofInt 64 12 &&& BitVec.ofInt 64 2)) : Nat) : Int) != 0) = false from rfl, show (IntKind.i64.wrap (((BitVec.toNat (BitVec.ofInt 64 13 &&& BitVec.ofInt 64 1)) : Nat) : Int) == 1) = true from rfl, show (IntKind.i64.wrap (((BitVec.toNat (BitVec.ofInt 64 13 &&& BitVec.ofInt 64 4)) : Nat) : Int) != 0) = true from rfl, show (IntKind.i64.wrap (((BitVec.toNat (BitVec.ofInt 64 13 &&& BitVec.ofInt 64 2)) : Nat) : Int) != 0) = false from rfl, show (IntKind.i64.wrap (((BitVec.toNat (BitVec.ofInt 64 14 &&& BitVec.ofInt 64 1)) : Nat) : Int) == 1) = false from rfl, show (IntKind.i64.wrap (((BitVec.toNat (BitVec.ofInt 64 14 &&& BitVec.ofInt 64 4)) : Nat) : Int) != 0) = true from rfl, show (IntKind.i64.wrap (((BitVec.toNat (BitVec.ofInt 64 14 &&& BitVec.ofInt 64 2)) : Nat) : Int) != 0) = true from rfl, show (IntKind.i64.wrap (((BitVec.toNat (BitVec.ofInt 64 15 &&& BitVec.ofInt 64 1)) : Nat) : Int) == 1) = true from rfl, show (IntKind.i64.wrap (((BitVec.toNat (BitVec.ofInt 64 15 &&& BitVec.ofInt 64 4)) : Nat) : Int) != 0) = true from rfl, show (IntKind.i64.wrap (((BitVec.toNat (BitVec.ofInt 64 15 &&& BitVec.ofInt 64 2)) : Nat) : Int) != 0) = true from rfl, cond_true, cond_false, rnum_Z hz0, rok_Z hz0, rtake_Z hz0]
       exact ⟨hz0, (8, 0, 0, 0, 0, _, [], []), _, rfl⟩)
  obtain ⟨s, s2⟩ := s
  have es := get_ok hb hs
  simp only at es
  simp only [hs, hF, Option.bind_some, Except.bind]
  have A0 : ∀ (fin : Bool) (o q : Int), 0 ≤ o → o ≤ 4611686018427387903 → s2 ≤ q → q ≤ b.length → RelF b (if (b.length : Int) - q ≤ 4611686018427387903 - o then (takeR b q ((b.length : Int) - q)).bind fun d => .ok ((8, s, o, 0, 0, fin, d.1, []), d.2) else .error (7, p0)) ((r4_ok.F k (b, q, 0, 0)).bind fun (v5_0, qc5) => bif v5_0 then (bif decide (IntKind.i64.wrap (4611686018427387903 - o) < IntKind.i64.wrap (((b.length : Nat) : Int) - q)) then ((r4_fails.F k qc5 7 p0).bind fun qc6 => (r4_take.F k qc6 (IntKind.i64.wrap (((b.length : Nat) : Int) - q))).bind fun (s7_0, qc7) => some ((8, s, o, 0, 0, fin, s7_0, [], qc7))) else ((r4_take.F k qc5 (IntKind.i64.wrap (((b.length : Nat) : Int) - q))).bind fun (s6_0, qc6) => some ((8, s, o, 0, 0, fin, s6_0, [], qc6)))) else ((r4_take.F k qc5 (IntKind.i64.wrap (((b.length : Nat) : Int) - q))).bind fun (s6_0, qc6) => some ((8, s, o, 0, 0, fin, s6_0, ([] : List (Int × Int)), qc6)))) := by
    intro fin o q ha hb' hq hq'
    rw [wrap_in ((b.length : Int) - q) (by omega) (by omega)]
    exact rstr_end hk hb hl fin (by omega) hq' (by omega) (by omega) ha hb'
  have A2 : ∀ (fin : Bool) (o q : Int), 0 ≤ o → o ≤ 4611686018427387903 → s2 ≤ q → q ≤ b.length → RelF b ((numR b q).bind fun n => (if n.1 ≤ 4611686018427387903 - o then (takeR b n.2 n.1).bind fun d => .ok ((8, s, o, 0, 0, fin, d.1, []), d.2) else .error (7, p0) : Ex (Fr × Int))) ((r4_number.F k (b, q, 0, 0)).bind fun (v4_0, qc4) => (r4_ok.F k qc4).bind fun (v5_0, qc5) => bif v5_0 then (bif decide (IntKind.i64.wrap (4611686018427387903 - o) < v4_0) then ((r4_fails.F k qc5 7 p0).bind fun qc6 => (r4_take.F k qc6 (v4_0)).bind fun (s7_0, qc7) => some ((8, s, o, 0, 0, fin, s7_0, [], qc7))) else ((r4_take.F k qc5 (v4_0)).bind fun (s6_0, qc6) => some ((8, s, o, 0, 0, fin, s6_0, [], qc6)))) else ((r4_take.F k qc5 (v4_0)).bind fun (s6_0, qc6) => some ((8, s, o, 0, 0, fin, s6_0, ([] : List (Int × Int)), qc6)))) := by
    intro fin o q ha hb' hq hq'
    rcases rnum_R hk hb hl (by omega : 0 ≤ q) hq' with ⟨n, hn, hF2⟩ | ⟨z, hz, hz0, hF2⟩
    · obtain ⟨n1, n2⟩ := n
      have en := get_ok hb hn
      simp only at en
      simp only [hn, hF2, Option.bind_some, Except.bind]
      exact rstr_end hk hb hl fin (by omega) (by omega) (by omega) (by omega) ha hb'
    · simp only [hz, hF2, Option.bind_some, Except.bind, rok_Z hz0, cond_false, rtake_Z hz0]
      exact ⟨hz0, (8, s, o, 0, 0, fin, [], []), _, rfl⟩
  rcases hkk with rfl | rfl | rfl | rfl | rfl | rfl | rfl | rfl
  · exact A0 false 0 s2 (by omega) (by omega) (by omega) (by omega)
  · exact A0 true 0 s2 (by omega) (by omega) (by omega) (by omega)
  · exact A2 false 0 s2 (by omega) (by omega) (by omega) (by omega)
  · exact A2 true 0 s2 (by omega) (by omega) (by omega) (by omega)
  all_goals
    simp only [show (IntKind.i64.wrap (((BitVec.toNat (BitVec.ofInt 64 8 &&& BitVec.ofInt 64 1)) : Nat) : Int) == 1) = false from rfl, show (IntKind.i64.wrap (((BitVec.toNat (BitVec.ofInt 64 8 &&& BitVec.ofInt 64 4)) : Nat) : Int) != 0) = false from rfl, show (IntKind.i64.wrap (((BitVec.toNat (BitVec.ofInt 64 8 &&& BitVec.ofInt 64 2)) : Nat) : Int) != 0) = false from rfl, show (IntKind.i64.wrap (((BitVec.toNat (BitVec.ofInt 64 9 &&& BitVec.ofInt 64 1)) : Nat) : Int) == 1) = true from rfl, show (IntKind.i64.wrap (((BitVec.toNat (BitVec.ofInt 64 9 &&& BitVec.ofInt 64 4)) : Nat) : Int) != 0) = false from rfl, show (IntKind.i64.wrap (((BitVec.toNat (BitVec.ofInt 64 9 &&& BitVec.ofInt 64 2)) : Nat) : Int) != 0) = false from rfl, show (IntKind.i64.wrap (((BitVec.toNat (BitVec.ofInt 64 10 &&& BitVec.ofInt 64 1)) : Nat) : Int) == 1) = false from rfl, show (IntKind.i64.wrap (((BitVec.toNat (BitVec.ofInt 64 10 &&& BitVec.ofInt 64 4)) : Nat) : Int) != 0) = false from rfl, show (IntKind.i64.wrap (((BitVec.toNat (BitVec.ofInt 64 10 &&& BitVec.ofInt 64 2)) : Nat) : Int) != 0) = true from rfl, show (IntKind.i64.wrap (((BitVec.toNat (BitVec.ofInt 64 11 &&& BitVec.ofInt 64 1)) : Nat) : Int) == 1) = true from rfl, show (IntKind.i64.wrap (((BitVec.toNat (BitVec.ofInt 64 11 &&& BitVec.ofInt 64 4)) : Nat) : Int) != 0) = false from rfl, show (IntKind.i64.wrap (((BitVec.toNat (BitVec.ofInt 64 11 &&& BitVec.ofInt 64 2)) : Nat) : Int) != 0) = true from rfl, show (IntKind.i64.wrap (((BitVec.toNat (BitVec.ofInt 64 12 &&& BitVec.ofInt 64 1)) : Nat) : Int) == 1) = false from rfl, show (IntKind.i64.wrap (((BitVec.toNat (BitVec.ofInt 64 12 &&& BitVec.ofInt 64 4)) : Nat) : Int) != 0) = true from rfl, show (IntKind.i64.wrap (((BitVec.toNat (BitVec.ofInt 64 12 &&& BitVec.ofInt 64 2)) : Nat) : Int) != 0) = false from rfl, show (IntKind.i64.wrap (((BitVec.toNat (BitVec.ofInt 64 13 &&& BitVec.ofInt 64 1)) : Nat) : Int) == 1) = true from rfl, show (IntKind.i64.wrap (((BitVec.toNat (BitVec.ofInt 64 13 &&& BitVec.ofInt 64 4)) : Nat) : Int) != 0) = true from rfl, show (IntKind.i64.wrap (((BitVec.toNat (BitVec.ofInt 64 13 &&& BitVec.ofInt 64 2)) : Nat) : Int) != 0) = false from rfl, show (IntKind.i64.wrap (((BitVec.toNat (BitVec.ofInt 64 14 &&& BitVec.ofInt 64 1)) : Nat) : Int) == 1) = false from rfl, show (IntKind.i64.wrap (((BitVec.toNat (BitVec.ofInt 64 14 &&& BitVec.ofInt 64 4)) : Nat) : Int) != 0) = true from rfl, show (IntKind.i64.wrap (((BitVec.toNat (BitVec.ofInt 64 14 &&& BitVec.ofInt 64 2)) : Nat) : Int) != 0) = true from rfl, show (IntKind.i64.wrap (((BitVec.toNat (BitVec.ofInt 64 15 &&& BitVec.ofInt 64 1)) : Nat) : Int) == 1) = true from rfl, show (IntKind.i64.wrap (((BitVec.toNat (BitVec.ofInt 64 15 &&& BitVec.ofInt 64 4)) : Nat) : Int) != 0) = true from rfl, show (IntKind.i64.wrap (((BitVec.toNat (BitVec.ofInt 64 15 &&& BitVec.ofInt 64 2)) : Nat) : Int) != 0) = true from rfl, cond_true, cond_false]
    rcases rnum_R hk hb hl (by omega : 0 ≤ s2) (by omega) with ⟨o, ho, hF2⟩ | ⟨z, hz, hz0, hF2⟩
    · obtain ⟨o1, o2⟩ := o
      have eo := get_ok hb ho
      simp only at eo
      simp only [hF2, Option.bind_some]
      first
      | (rw [show (if (12 : Int) / 4 % 2 = 1 then numR b s2 else .ok (0, s2)) = .ok (o1, o2) from ho]; exact A0 false o1 o2 (by omega) (by omega) (by omega) (by omega))
      | (rw [show (if (13 : Int) / 4 % 2 = 1 then numR b s2 else .ok (0, s2)) = .ok (o1, o2) from ho]; exact A0 true o1 o2 (by omega) (by omega) (by omega) (by omega))
      | (rw [show (if (14 : Int) / 4 % 2 = 1 then numR b s2 else .ok (0, s2)) = .ok (o1, o2) from ho]; exact A2 false o1 o2 (by omega) (by omega) (by omega) (by omega))
      | (rw [show (if (15 : Int) / 4 % 2 = 1 then numR b s2 else .ok (0, s2)) = .ok (o1, o2) from ho]; exact A2 true o1 o2 (by omega) (by omega) (by omega) (by omega))
    · simp only [hF2, Option.bind_some, rnum_Z hz0, rok_Z hz0, cond_false, rtake_Z hz0]
      first
      | rw [show (if (12 : Int) / 4 % 2 = 1 then numR b s2 else .ok (0, s2)) = .error z from hz]
      | rw [show (if (13 : Int) / 4 % 2 = 1 then numR b s2 else .ok (0, s2)) = .error z from hz]
      | rw [show (if (14 : Int) / 4 % 2 = 1 then numR b s2 else .ok (0, s2)) = .error z from hz]
      | rw [show (if (15 : Int) / 4 % 2 = 1 then numR b s2 else .ok (0, s2)) = .error z from hz]
      exact ⟨hz0, (8, s, 0, 0, 0, _, [], []), _, rfl⟩
theorem rframe_F {p : Int} (h0 : 0 ≤ p) (h1 : p < b.length) : RelF b (frameR b p) (r4_frame.F k (b, p, 0, 0)) := by
 have hc := rd_byte hb p h0 h1
 have w1 : IntKind.i64.wrap (rd b p) = rd b p := wrap_in _ (by omega) (by omega)
 have w2 : IntKind.i64.wrap (p + 1) = p + 1 := wrap_in _ (by omega) (by omega)
 have hs8 := fun h => rstr_F hk hb hl (p := p + 1) (kind := rd b p) (p0 := p) (by omega) (by omega) h
 have ha := rack_F hk hb hl (p := p + 1) (by omega) (by omega)
 have hn := rnum_R hk hb hl (p := p + 1) (by omega) (by omega)
 unfold r4_frame.F frameR
 simp only
 rw [getI_rd b p h0 h1]
 simp only [Option.bind_some, w1, w2]
 generalize rd b p = c at hc w1 hs8 ⊢
 by_cases c0 : c = 0
 ·subst c0; rfl
 by_cases c1 : c = 1
 ·subst c1; rfl
 by_cases c30 : c = 30
 ·subst c30; rfl
 rw [if_neg (by omega : ¬ (c = 0 ∨ c = 1 ∨ c = 30))]
 simp only [beq_eq_false_iff_ne.mpr c0, beq_eq_false_iff_ne.mpr c1, beq_eq_false_iff_ne.mpr c30, cond_false]
 by_cases c2 : c = 2
 ·subst c2
  exact relF_eta ha
 simp only [beq_eq_false_iff_ne.mpr c2, cond_false, if_neg c2]
 by_cases c4 : c = 4
 ·subst c4
  simp only [beq_self_eq_true, if_pos, cond_true]
  rcases hn with ⟨r0, hr0, hF0⟩ | ⟨z, hz, hz0, hF0⟩
  ·obtain ⟨u0, v0⟩ := r0
   have e0 := get_ok hb hr0
   simp only at e0
   simp only [hr0, hF0, Option.bind_some, Except.bind]
   rcases rnum_R hk hb hl (by omega : 0 ≤ v0) (by omega) with ⟨r1, hr1, hF1⟩ | ⟨z, hz, hz0, hF1⟩
   ·obtain ⟨u1, v1⟩ := r1
    have e1 := get_ok hb hr1
    simp only at e1
    simp only [hr1, hF1, Option.bind_some, Except.bind]
    rcases rnum_R hk hb hl (by omega : 0 ≤ v1) (by omega) with ⟨r2, hr2, hF2⟩ | ⟨z, hz, hz0, hF2⟩
    ·obtain ⟨u2, v2⟩ := r2
     have e2 := get_ok hb hr2
     simp only at e2
     simp only [hr2, hF2, Option.bind_some, Except.bind]
     rfl
    ·simp only [hz, hF2, Option.bind_some, Except.bind, rnum_Z hz0, rtake_Z hz0]
     exact ⟨hz0, (4, _, _, _, _, _, _, _), _, rfl⟩
   ·simp only [hz, hF1, Option.bind_some, Except.bind, rnum_Z hz0, rtake_Z hz0]
    exact ⟨hz0, (4, _, _, _, _, _, _, _), _, rfl⟩
  ·simp only [hz, hF0, Option.bind_some, Except.bind, rnum_Z hz0, rtake_Z hz0]
   exact ⟨hz0, (4, _, _, _, _, _, _, _), _, rfl⟩
 simp only [beq_eq_false_iff_ne.mpr c4, cond_false, if_neg c4]
 by_cases c5 : c = 5
 ·subst c5
  simp only [beq_self_eq_true, if_pos, cond_true]
  rcases hn with ⟨r0, hr0, hF0⟩ | ⟨z, hz, hz0, hF0⟩
  ·obtain ⟨u0, v0⟩ := r0
   have e0 := get_ok hb hr0
   simp only at e0
   simp only [hr0, hF0, Option.bind_some, Except.bind]
   rcases rnum_R hk hb hl (by omega : 0 ≤ v0) (by omega) with ⟨r1, hr1, hF1⟩ | ⟨z, hz, hz0, hF1⟩
   ·obtain ⟨u1, v1⟩ := r1
    have e1 := get_ok hb hr1
    simp only at e1
    simp only [hr1, hF1, Option.bind_some, Except.bind]
    rfl
   ·simp only [hz, hF1, Option.bind_some, Except.bind, rnum_Z hz0, rtake_Z hz0]
    exact ⟨hz0, (5, _, _, _, _, _, _, _), _, rfl⟩
  ·simp only [hz, hF0, Option.bind_some, Except.bind, rnum_Z hz0, rtake_Z hz0]
   exact ⟨hz0, (5, _, _, _, _, _, _, _), _, rfl⟩
 simp only [beq_eq_false_iff_ne.mpr c5, cond_false, if_neg c5]
 by_cases c8 : c = 8
 ·subst c8
  exact relF_eta (hs8 rfl)
 simp only [beq_eq_false_iff_ne.mpr c8, cond_false]
 by_cases c9 : c = 9
 ·subst c9
  exact relF_eta (hs8 rfl)
 simp only [beq_eq_false_iff_ne.mpr c9, cond_false]
 by_cases c10 : c = 10
 ·subst c10
  exact relF_eta (hs8 rfl)
 simp only [beq_eq_false_iff_ne.mpr c10, cond_false]
 by_cases c11 : c = 11
 ·subst c11
  exact relF_eta (hs8 rfl)
 simp only [beq_eq_false_iff_ne.mpr c11, cond_false]
 by_cases c12 : c = 12
 ·subst c12
  exact relF_eta (hs8 rfl)
 simp only [beq_eq_false_iff_ne.mpr c12, cond_false]
 by_cases c13 : c = 13
 ·subst c13
  exact relF_eta (hs8 rfl)
 simp only [beq_eq_false_iff_ne.mpr c13, cond_false]
 by_cases c14 : c = 14
 ·subst c14
  exact relF_eta (hs8 rfl)
 simp only [beq_eq_false_iff_ne.mpr c14, cond_false]
 by_cases c15 : c = 15
 ·subst c15
  exact relF_eta (hs8 rfl)
 simp only [beq_eq_false_iff_ne.mpr c15, cond_false]
 rw [if_neg (by omega : ¬ c / 8 = 1)]
 by_cases c16 : c = 16
 ·subst c16
  simp only [beq_self_eq_true, if_pos, cond_true, true_or, or_true, if_true]
  rw [show (if (16 : Int) = 17 then (numR b (p + 1)).bind fun s => (numR b s.2).bind fun n => .ok ((17, s.1, 0, n.1, 0, false, [], []), n.2) else (numR b (p + 1)).bind fun n => .ok ((16, 0, 0, n.1, 0, false, [], []), n.2) : Ex (Fr × Int)) = (numR b (p + 1)).bind fun n => .ok ((16, 0, 0, n.1, 0, false, [], []), n.2) from rfl]
  rcases hn with ⟨r0, hr0, hF0⟩ | ⟨z, hz, hz0, hF0⟩
  ·obtain ⟨u0, v0⟩ := r0
   have e0 := get_ok hb hr0
   simp only at e0
   simp only [hr0, hF0, Option.bind_some, Except.bind]
   rfl
  ·simp only [hz, hF0, Option.bind_some, Except.bind, rnum_Z hz0, rtake_Z hz0]
   exact ⟨hz0, (16, _, _, _, _, _, _, _), _, rfl⟩
 simp only [beq_eq_false_iff_ne.mpr c16, cond_false]
 by_cases c18 : c = 18
 ·subst c18
  simp only [beq_self_eq_true, if_pos, cond_true, true_or, or_true, if_true]
  rw [show (if (18 : Int) = 17 then (numR b (p + 1)).bind fun s => (numR b s.2).bind fun n => .ok ((17, s.1, 0, n.1, 0, false, [], []), n.2) else (numR b (p + 1)).bind fun n => .ok ((18, 0, 0, n.1, 0, false, [], []), n.2) : Ex (Fr × Int)) = (numR b (p + 1)).bind fun n => .ok ((18, 0, 0, n.1, 0, false, [], []), n.2) from rfl]
  rcases hn with ⟨r0, hr0, hF0⟩ | ⟨z, hz, hz0, hF0⟩
  ·obtain ⟨u0, v0⟩ := r0
   have e0 := get_ok hb hr0
   simp only at e0
   simp only [hr0, hF0, Option.bind_some, Except.bind]
   rfl
  ·simp only [hz, hF0, Option.bind_some, Except.bind, rnum_Z hz0, rtake_Z hz0]
   exact ⟨hz0, (18, _, _, _, _, _, _, _), _, rfl⟩
 simp only [beq_eq_false_iff_ne.mpr c18, cond_false]
 by_cases c17 : c = 17
 ·subst c17
  simp only [beq_self_eq_true, if_pos, cond_true, true_or, or_true, if_true]
  rcases hn with ⟨r0, hr0, hF0⟩ | ⟨z, hz, hz0, hF0⟩
  ·obtain ⟨u0, v0⟩ := r0
   have e0 := get_ok hb hr0
   simp only at e0
   simp only [hr0, hF0, Option.bind_some, Except.bind]
   rcases rnum_R hk hb hl (by omega : 0 ≤ v0) (by omega) with ⟨r1, hr1, hF1⟩ | ⟨z, hz, hz0, hF1⟩
   ·obtain ⟨u1, v1⟩ := r1
    have e1 := get_ok hb hr1
    simp only at e1
    simp only [hr1, hF1, Option.bind_some, Except.bind]
    rfl
   ·simp only [hz, hF1, Option.bind_some, Except.bind, rnum_Z hz0, rtake_Z hz0]
    exact ⟨hz0, (17, _, _, _, _, _, _, _), _, rfl⟩
  ·simp only [hz, hF0, Option.bind_some, Except.bind, rnum_Z hz0, rtake_Z hz0]
   exact ⟨hz0, (17, _, _, _, _, _, _, _), _, rfl⟩
 simp only [beq_eq_false_iff_ne.mpr c17, cond_false]
 by_cases c28 : c = 28
 ·subst c28
  simp only [beq_self_eq_true, if_pos, cond_true, true_or, or_true, if_true]
  rw [show (if (28 : Int) = 17 then (numR b (p + 1)).bind fun s => (numR b s.2).bind fun n => .ok ((17, s.1, 0, n.1, 0, false, [], []), n.2) else if (28 : Int) = 16 ∨ (28 : Int) = 18 then (numR b (p + 1)).bind fun n => .ok ((28, 0, 0, n.1, 0, false, [], []), n.2) else (numR b (p + 1)).bind fun c => (numR b c.2).bind fun n => (takeR b n.2 n.1).bind fun d => .ok ((28, 0, 0, 0, c.1, false, d.1, []), d.2) : Ex (Fr × Int)) = (numR b (p + 1)).bind fun c => (numR b c.2).bind fun n => (takeR b n.2 n.1).bind fun d => .ok ((28, 0, 0, 0, c.1, false, d.1, []), d.2) from rfl]
  rcases hn with ⟨r0, hr0, hF0⟩ | ⟨z, hz, hz0, hF0⟩
  ·obtain ⟨u0, v0⟩ := r0
   have e0 := get_ok hb hr0
   simp only at e0
   simp only [hr0, hF0, Option.bind_some, Except.bind]
   rcases rnum_R hk hb hl (by omega : 0 ≤ v0) (by omega) with ⟨r1, hr1, hF1⟩ | ⟨z, hz, hz0, hF1⟩
   ·obtain ⟨u1, v1⟩ := r1
    have e1 := get_ok hb hr1
    simp only at e1
    simp only [hr1, hF1, Option.bind_some, Except.bind]
    rcases rtake_R hk hb hl (by omega : 0 ≤ v1) (by omega) (by omega : 0 ≤ u1) (by omega) with ⟨d, hd, hFd⟩ | ⟨z, hz, hz0, hFd⟩
    ·simp only [hd, hFd, Option.bind_some, Except.bind]; rfl
    ·simp only [hz, hFd, Option.bind_some, Except.bind]
     exact ⟨hz0, (28, _, _, _, _, _, _, _), _, rfl⟩
   ·simp only [hz, hF1, Option.bind_some, Except.bind, rnum_Z hz0, rtake_Z hz0]
    exact ⟨hz0, (28, _, _, _, _, _, _, _), _, rfl⟩
  ·simp only [hz, hF0, Option.bind_some, Except.bind, rnum_Z hz0, rtake_Z hz0]
   exact ⟨hz0, (28, _, _, _, _, _, _, _), _, rfl⟩
 simp only [beq_eq_false_iff_ne.mpr c28, cond_false]
 rw [if_neg c17, if_neg (by omega), if_neg c28, rfails_0]
 exact ⟨(show (5 : Int) ≠ 0 by decide), (0, 0, 0, 0, 0, false, [], []), _, rfl⟩
theorem rdec_F : ∀ (q : Nat) (acc : List Fr) (p : Int), 0 ≤ p → p ≤ b.length → acc.length ≤ 64 → (b.length : Int) - p < q → iter (rdec.s k) q (acc, (b, p, 0, 0)) = some (decO (decR b q acc p)) := by
 intro q
 induction q with
 | zero => intro acc p h0 h1 ha h2; omega
 | succ q ih =>
  intro acc p h0 h1 ha h2
  simp only [iter, rdec.s, decR]
  by_cases hp : p < b.length
  ·rw [decide_eq_true hp, if_pos hp]
   simp only [cond_true]
   by_cases h64 : acc.length < 64
   ·rw [if_pos h64, beq_eq_false_iff_ne.2 (by omega : ((acc.length : Nat) : Int) ≠ 64)]
    simp only [cond_false]
    have hR := rframe_F hk hb hl h0 hp
    cases hf : frameR b p with
    | error z =>
     rw [hf] at hR
     obtain ⟨hz0, v, p', hF⟩ := hR
     rw [hF]
     simp only [Option.bind_some, putS, rok_Z hz0, cond_false]
     rfl
    | ok r =>
     rw [hf] at hR
     have hR : r4_frame.F k (b, p, 0, 0) = some (putS r.1 (b, r.2, 0, 0)) := hR
     have hg := frame_good hb hl h0 hp hf
     rw [hR]
     simp only [Option.bind_some, putS, rok_0, cond_true]
     exact ih (acc ++ [r.1]) r.2 (by have := hg.1; omega) hg.2.1 (by rw [List.length_append, List.length_singleton]; omega) (by have := hg.1; omega)
   ·rw [if_neg h64, beq_iff_eq.2 (by omega : ((acc.length : Nat) : Int) = 64), rfails_0]
    rfl
  ·rw [decide_eq_false hp, if_neg hp]; rfl
end
theorem rDecode_F {k : Nat} (hk : 1250 ≤ k) {b : List Int} (hb : Bytes b) : ref04_Decode.F k b = some (decP b k) := by
 unfold ref04_Decode.F decP
 by_cases hc : 1200 < b.length
 ·rw [decide_eq_true (by omega : (1200 : Int) < (b.length : Int)), if_pos hc]; rfl
 ·rw [decide_eq_false (by omega : ¬ (1200 : Int) < (b.length : Int)), if_neg hc, cond_false, rdec_F hk hb (by omega) k [] 0 (by omega) (by omega) (by simp) (by omega)]
end Go.Proofs.Ytpdchohbmmfemaa.X
