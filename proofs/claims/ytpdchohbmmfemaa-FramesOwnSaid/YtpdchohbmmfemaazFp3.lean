import Derived.Test.YtpdchohbmmfemaazFp2
import Derived.Test.YtpdchohbmmfemaazFb
namespace Go.Proofs.Ytpdchohbmmfemaa.X
open Go Go.RowKit Go.Proofs.YtpdchohbmmfemaaW.Rx Go.Proofs.Ytpdchohbmmfemaa.Plain Go.Proofs.YtpdchohbmmfemaaW.PrintWords
set_option linter.unusedVariables false
set_option linter.unusedSimpArgs false
set_option linter.unusedSectionVars false
def putQ (b : List Int) (r : Fr × Int) : Int × Int × Int × Int × Int × Bool × List Int × List (Int × Int) × (List Int × Int) := (r.1.1, r.1.2.1, r.1.2.2.1, r.1.2.2.2.1, r.1.2.2.2.2.1, r.1.2.2.2.2.2.1, r.1.2.2.2.2.2.2.1, r.1.2.2.2.2.2.2.2, (b, r.2))
section
variable {k : Nat} {b : List Int} (hk : 1250 ≤ k) (hb : Bytes b) (hl : b.length ≤ 1200)
include hk hb hl
theorem below_ok {p most e : Int} {r : Int × Int} (h : belowR b p most e = .ok r) : 0 ≤ p ∧ p < b.length ∧ 0 ≤ r.1 ∧ r.1 ≤ most ∧ r.1 ≤ 4611686018427387903 ∧ r.2 ≤ b.length ∧ p < r.2 := by
 unfold belowR at h
 cases hn : numR b p with
 | error z => rw [hn] at h; cases h
 | ok q =>
  rw [hn] at h
  simp only [Except.bind] at h
  by_cases hc : q.1 ≤ most
  ·rw [if_pos hc] at h
   cases h
   have := get_ok hb hn
   exact ⟨this.1, this.2.1, this.2.2.1, hc, this.2.2.2.1, this.2.2.2.2.2.1, this.2.2.2.2.2.2⟩
  ·rw [if_neg hc] at h; cases h
theorem ackL_F (t n m : Int) (hm : m ≤ 31) (c : Nat) : ∀ (q : Nat) (low : Int) (i : Int) (p : Int) (acc : List (Int × Int)), 1 ≤ i → i + c = m + 1 → c < q → low ≤ 4611686018427387903 → -4611686018427387903 ≤ low → 0 ≤ p → p ≤ b.length → (acc.length : Int) ≤ i →
  iter (f0_ack.s3 k m) q (low, i, 2, 0, 0, n, 0, false, [], acc, (b, p)) = some ((ackL b c low p acc).map fun r => putQ b ((2, 0, 0, n, 0, false, [], r.1.reverse), r.2)) := by
 induction c with
 | zero =>
  intro q low i p acc hi hic hq h0 h1 hp0 hp1 ha
  obtain ⟨q, rfl⟩ : ∃ j, q = j + 1 := ⟨q - 1, by omega⟩
  simp only [iter, f0_ack.s3]
  rw [wrap_in (m + 1) (by omega) (by omega), decide_eq_false (by omega : ¬ i < m + 1)]
  rfl
 | succ c ih =>
  intro q low i p acc hi hic hq h0 h1 hp0 hp1 ha
  obtain ⟨q, rfl⟩ : ∃ j, q = j + 1 := ⟨q - 1, by omega⟩
  simp only [iter, f0_ack.s3]
  rw [wrap_in (m + 1) (by omega) (by omega), decide_eq_true (by omega : i < m + 1), decide_eq_true (by omega : 0 < i), wrap_in (low - 2) (by omega) (by omega)]
  simp only [cond_true]
  rw [below_F hk hb hl hp0 hp1]
  unfold ackL
  cases h2 : belowR b p (low - 2) 5 with
  | error z => rfl
  | ok g =>
   obtain ⟨g1, g2⟩ := g
   have e2 := below_ok hk hb hl h2
   simp only [Option.bind_some, Except.map, Except.bind] at e2 ⊢
   rw [wrap_in (low - 2 - g1) (by omega) (by omega), below_F hk hb hl (by omega) (by omega)]
   cases h3 : belowR b g2 (low - 2 - g1) 5 with
   | error z => rfl
   | ok v =>
    obtain ⟨v1, v2⟩ := v
    have e3 := below_ok hk hb hl h3
    simp only [Option.bind_some, Except.map, Except.bind] at e3 ⊢
    rw [wrap_in (low - 2 - g1 - v1) (by omega) (by omega), wrap_in (i + 1) (by omega) (by omega), decide_eq_true (by simp only [List.length_cons, List.length_nil]; omega)]
    simp only [cond_true, Option.bind_some]
    exact ih q _ (i + 1) v2 _ (by omega) (by omega) (by omega) (by omega) (by omega) (by omega) (by omega) (by rw [List.length_append, List.length_singleton]; omega)
theorem ack_F {p : Int} (h0 : 0 ≤ p) (h1 : p ≤ b.length) : f0_ack.F k (b, p) = some ((ackR b p).map (putQ b)) := by
 unfold f0_ack.F ackR
 rw [number_F hk hb hl h0 h1]
 cases ht : numR b p with
 | error z => rfl
 | ok t =>
  obtain ⟨t1, t2⟩ := t
  have et := get_ok hb ht
  simp only [Option.bind_some, Except.map, Except.bind] at et ⊢
  rw [number_F hk hb hl (by omega) (by omega)]
  cases hn : numR b t2 with
  | error z => rfl
  | ok n =>
   obtain ⟨n1, n2⟩ := n
   have en := get_ok hb hn
   simp only [Option.bind_some, Except.map, Except.bind] at en ⊢
   rw [below_F hk hb hl (by omega) (by omega)]
   cases hm : belowR b n2 31 6 with
   | error z => rfl
   | ok m =>
    obtain ⟨m1, m2⟩ := m
    have em := below_ok hk hb hl hm
    simp only [Option.bind_some, Except.map, Except.bind] at em ⊢
    obtain ⟨q, hq⟩ : ∃ j, k = j + 1 := ⟨k - 1, by omega⟩
    have hit : iter (f0_ack.s3 k m1) k (t1, 0, 2, 0, 0, n1, 0, false, [], [], b, m2) = iter (f0_ack.s3 k m1) (q + 1) (t1, 0, 2, 0, 0, n1, 0, false, [], [], b, m2) := by rw [← hq]
    rw [hit]
    simp only [iter, f0_ack.s3]
    rw [wrap_in (m1 + 1) (by omega) (by omega), decide_eq_true (by omega : 0 < m1 + 1), decide_eq_false (by omega : ¬ (0 : Int) < 0)]
    simp only [cond_true, cond_false]
    rw [below_F hk hb hl (by omega) (by omega)]
    cases hf : belowR b m2 t1 5 with
    | error z => rfl
    | ok f =>
     obtain ⟨f1, f2⟩ := f
     have ef := below_ok hk hb hl hf
     simp only [Option.bind_some, Except.map, Except.bind] at ef ⊢
     rw [wrap_in (t1 - f1) (by omega) (by omega), wrap_in (0 + 1) (by omega) (by omega), decide_eq_true (by simp)]
     simp only [cond_true, Option.bind_some]
     rw [show (([] : List (Int × Int)) ++ [(t1 - f1, t1)]) = [(t1 - f1, t1)] from rfl]
     rw [show (0 : Int) + 1 = 1 from rfl, ackL_F hk hb hl t1 n1 m1 (by omega) m1.toNat q (t1 - f1) 1 f2 _ (by omega) (by omega) (by omega) (by omega) (by omega) (by omega) (by omega) (by simp)]
     cases ackL b m1.toNat (t1 - f1) f2 [(t1 - f1, t1)] with
     | error z => rfl
     | ok r => rfl
theorem needs_T (c p : Int) : frames_needs.F k true c p = some (.ok ()) := rfl
theorem needs_N (c p : Int) : frames_needs.F k false c p = some (.error (c, p)) := rfl
theorem str_end {p s o : Int} {n p0 : Int} (fin : Bool) (h0 : 0 ≤ p) (h1 : p ≤ b.length) (hn : 0 ≤ n) (hn2 : n ≤ 4611686018427387903) (ho : 0 ≤ o) (ho2 : o ≤ 4611686018427387903) :
  (bif decide (n ≤ IntKind.i64.wrap (4611686018427387903 - o)) then ((frames_needs.F k true 7 p0).bind fun r5 => match r5 with | .error z5 => some (.error z5) | .ok _ => (f0_take.F k (b, p) n).bind fun r6 => match r6 with | .error z6 => some (.error z6) | .ok (s6_0, qc6) => some (.ok ((8, s, o, 0, 0, fin, s6_0, [], qc6)))) else ((frames_needs.F k false 7 p0).bind fun r5 => match r5 with | .error z5 => some (.error z5) | .ok _ => (f0_take.F k (b, p) n).bind fun r6 => match r6 with | .error z6 => some (.error z6) | .ok (s6_0, qc6) => some (.ok ((8, s, o, 0, 0, fin, s6_0, ([] : List (Int × Int)), qc6)))))
   = some ((if n ≤ 4611686018427387903 - o then (takeR b p n).bind fun d => .ok ((8, s, o, 0, 0, fin, d.1, []), d.2) else .error (7, p0) : Ex (Fr × Int)).map (putQ b)) := by
 rw [wrap_in (4611686018427387903 - o) (by omega) (by omega)]
 by_cases hc : n ≤ 4611686018427387903 - o
 ·rw [decide_eq_true hc, if_pos hc, take_F hk hb hl h0 h1 hn hn2]
  simp only [cond_true, needs_T hk hb hl, Option.bind_some]
  cases takeR b p n with
  | error z => rfl
  | ok r => rfl
 ·rw [decide_eq_false hc, if_neg hc]; rfl
theorem stream_F {p kind p0 : Int} (h0 : 0 ≤ p) (h1 : p ≤ b.length) (hk8 : kind / 8 = 1) : f0_stream.F k (b, p) kind p0 = some ((streamR b kind p0 p).map (putQ b)) := by
 have hkk : kind = 8 ∨ kind = 9 ∨ kind = 10 ∨ kind = 11 ∨ kind = 12 ∨ kind = 13 ∨ kind = 14 ∨ kind = 15 := by omega
 have hs := number_F hk hb hl h0 h1
 have h4 : ∀ q : Int, 0 ≤ q → q ≤ b.length → f0_number.F k (b, q) = some ((numR b q).map fun r => (r.1, (b, r.2))) := fun q ha hb' => number_F hk hb hl ha hb'
 unfold f0_stream.F streamR
 rw [hs]
 cases hn : numR b p with
 | error z => rcases hkk with rfl | rfl | rfl | rfl | rfl | rfl | rfl | rfl <;> rfl
 | ok s =>
  obtain ⟨s1, s2⟩ := s
  have es := get_ok hb hn
  simp only [Option.bind_some, Except.map, Except.bind] at es ⊢
  have w1 : IntKind.i64.wrap ((b.length : Int) - s2) = (b.length : Int) - s2 := wrap_in _ (by omega) (by omega)
  have hoff : ∀ (fin : Bool), (f0_number.F k (b, s2)) = some ((numR b s2).map fun r => (r.1, (b, r.2))) := fun _ => h4 s2 (by omega) (by omega)
  have hend : ∀ (fin : Bool) (o q : Int), 0 ≤ o → o ≤ 4611686018427387903 → s2 ≤ q → q ≤ b.length → ∀ n : Int, 0 ≤ n → n ≤ 4611686018427387903 → _ := fun fin o q ha hb' hq hq' n hn' hn2 => str_end hk hb hl (p := q) (s := s1) (o := o) (n := n) (p0 := p0) fin (by omega) hq' hn' hn2 ha hb'
  have A2 : ∀ (fin : Bool) (o q : Int), 0 ≤ o → o ≤ 4611686018427387903 → s2 ≤ q → q ≤ b.length → ((f0_number.F k (b, q)).bind fun r4 => match r4 with | .error z4 => some (.error z4) | .ok (v4_0, qc4) => bif decide (v4_0 ≤ IntKind.i64.wrap (4611686018427387903 - o)) then ((frames_needs.F k true 7 p0).bind fun r5 => match r5 with | .error z5 => some (.error z5) | .ok _ => (f0_take.F k qc4 v4_0).bind fun r6 => match r6 with | .error z6 => some (.error z6) | .ok (s6_0, qc6) => some (.ok ((8, s1, o, 0, 0, fin, s6_0, [], qc6)))) else ((frames_needs.F k false 7 p0).bind fun r5 => match r5 with | .error z5 => some (.error z5) | .ok _ => (f0_take.F k qc4 v4_0).bind fun r6 => match r6 with | .error z6 => some (.error z6) | .ok (s6_0, qc6) => some (.ok ((8, s1, o, 0, 0, fin, s6_0, ([] : List (Int × Int)), qc6))))) = some (((numR b q).bind fun n => (if n.1 ≤ 4611686018427387903 - o then (takeR b n.2 n.1).bind fun d => .ok ((8, s1, o, 0, 0, fin, d.1, []), d.2) else .error (7, p0) : Ex (Fr × Int))).map (putQ b)) := by
   intro fin o q ha hb' hq hq'
   rw [h4 q (by omega) hq']
   cases hn2 : numR b q with
   | error z => rfl
   | ok n =>
    obtain ⟨n1, n2⟩ := n
    have en := get_ok hb hn2
    simp only [Option.bind_some, Except.map, Except.bind] at en ⊢
    exact hend fin o n2 ha hb' (by omega) (by omega) n1 (by omega) (by omega)
  have A0 : ∀ (fin : Bool) (o q : Int), 0 ≤ o → o ≤ 4611686018427387903 → s2 ≤ q → q ≤ b.length → (bif decide (IntKind.i64.wrap ((b.length : Int) - q) ≤ IntKind.i64.wrap (4611686018427387903 - o)) then ((frames_needs.F k true 7 p0).bind fun r5 => match r5 with | .error z5 => some (.error z5) | .ok _ => (f0_take.F k (b, q) (IntKind.i64.wrap ((b.length : Int) - q))).bind fun r6 => match r6 with | .error z6 => some (.error z6) | .ok (s6_0, qc6) => some (.ok ((8, s1, o, 0, 0, fin, s6_0, [], qc6)))) else ((frames_needs.F k false 7 p0).bind fun r5 => match r5 with | .error z5 => some (.error z5) | .ok _ => (f0_take.F k (b, q) (IntKind.i64.wrap ((b.length : Int) - q))).bind fun r6 => match r6 with | .error z6 => some (.error z6) | .ok (s6_0, qc6) => some (.ok ((8, s1, o, 0, 0, fin, s6_0, ([] : List (Int × Int)), qc6))))) = some ((if (b.length : Int) - q ≤ 4611686018427387903 - o then (takeR b q ((b.length : Int) - q)).bind fun d => .ok ((8, s1, o, 0, 0, fin, d.1, []), d.2) else .error (7, p0) : Ex (Fr × Int)).map (putQ b)) := by
   intro fin o q ha hb' hq hq'
   rw [wrap_in ((b.length : Int) - q) (by omega) (by omega)]
   exact hend fin o q ha hb' hq hq' _ (by omega) (by omega)
  have e12 : (if (12 : Int) / 4 % 2 = 1 then numR b s2 else .ok (0, s2)) = numR b s2 := rfl
  rcases hkk with rfl | rfl | rfl | rfl | rfl | rfl | rfl | rfl
  ·exact A0 false 0 s2 (by omega) (by omega) (by omega) (by omega)
  ·exact A0 true 0 s2 (by omega) (by omega) (by omega) (by omega)
  ·exact A2 false 0 s2 (by omega) (by omega) (by omega) (by omega)
  ·exact A2 true 0 s2 (by omega) (by omega) (by omega) (by omega)
  all_goals
   have hn2 := h4 s2 (by omega) (by omega)
   simp only [show (IntKind.i64.wrap (((BitVec.toNat (BitVec.ofInt 64 12 &&& BitVec.ofInt 64 1)) : Nat) : Int) != 0) = false from rfl, show (IntKind.i64.wrap (((BitVec.toNat (BitVec.ofInt 64 13 &&& BitVec.ofInt 64 1)) : Nat) : Int) != 0) = true from rfl, show (IntKind.i64.wrap (((BitVec.toNat (BitVec.ofInt 64 14 &&& BitVec.ofInt 64 1)) : Nat) : Int) != 0) = false from rfl, show (IntKind.i64.wrap (((BitVec.toNat (BitVec.ofInt 64 15 &&& BitVec.ofInt 64 1)) : Nat) : Int) != 0) = true from rfl, show (IntKind.i64.wrap (((BitVec.toNat (BitVec.ofInt 64 12 &&& BitVec.ofInt 64 4)) : Nat) : Int) != 0) = true from rfl, show (IntKind.i64.wrap (((BitVec.toNat (BitVec.ofInt 64 13 &&& BitVec.ofInt 64 4)) : Nat) : Int) != 0) = true from rfl, show (IntKind.i64.wrap (((BitVec.toNat (BitVec.ofInt 64 14 &&& BitVec.ofInt 64 4)) : Nat) : Int) != 0) = true from rfl, show (IntKind.i64.wrap (((BitVec.toNat (BitVec.ofInt 64 15 &&& BitVec.ofInt 64 4)) : Nat) : Int) != 0) = true from rfl, cond_true, cond_false]
   rw [hn2]
   cases h5 : numR b s2 with
   | error z => rfl
   | ok o =>
    obtain ⟨o1, o2⟩ := o
    have eo := get_ok hb h5
    simp only [Option.bind_some, Except.map, Except.bind] at eo ⊢
    first
    | exact A0 false o1 o2 (by omega) (by omega) (by omega) (by omega)
    | exact A0 true o1 o2 (by omega) (by omega) (by omega) (by omega)
    | exact A2 false o1 o2 (by omega) (by omega) (by omega) (by omega)
    | exact A2 true o1 o2 (by omega) (by omega) (by omega) (by omega)
theorem frame_F {p : Int} (h0 : 0 ≤ p) (h1 : p < b.length) : f0_frame.F k (b, p) = some ((frameR b p).map (putQ b)) := by
 have hc := rd_byte hb p h0 h1
 have w1 : IntKind.i64.wrap (rd b p) = rd b p := wrap_in _ (by omega) (by omega)
 have w2 : IntKind.i64.wrap (p + 1) = p + 1 := wrap_in _ (by omega) (by omega)
 have hs8 := fun h => stream_F hk hb hl (p := p + 1) (kind := rd b p) (p0 := p) (by omega) (by omega) h
 have ha := ack_F hk hb hl (p := p + 1) (by omega) (by omega)
 have hn := number_F hk hb hl (p := p + 1) (by omega) (by omega)
 unfold f0_frame.F frameR
 simp only
 rw [getI_rd b p h0 h1]
 simp only [Option.bind_some, w1, w2]
 rw [hn, ha]
 clear ha hn
 generalize rd b p = c at hc w1 hs8 ⊢
 by_cases c0 : c = 0
 ·subst c0; rfl
 by_cases c1 : c = 1
 ·subst c1; rfl
 by_cases c30 : c = 30
 ·subst c30; rfl
 rw [if_neg (by omega : ¬ (c = 0 ∨ c = 1 ∨ c = 30))]
 simp only [beq_eq_false_iff_ne.mpr c0, beq_eq_false_iff_ne.mpr c1, beq_eq_false_iff_ne.mpr c30, cond_false]
 by_cases c2 : c = 2
 ·subst c2
  simp only [beq_self_eq_true, if_pos, cond_true]
  cases ackR b (p + 1) with
  | error z => rfl
  | ok r => rfl
 simp only [beq_eq_false_iff_ne.mpr c2, cond_false, if_neg c2]
 by_cases c4 : c = 4
 ·subst c4
  simp only [beq_self_eq_true, if_pos, cond_true]
  cases e1 : numR b (p + 1) with
  | error z => rfl
  | ok s =>
   obtain ⟨s1, s2⟩ := s
   have es := get_ok hb e1
   simp only [Option.bind_some, Except.map, Except.bind] at es ⊢
   rw [number_F hk hb hl (by omega) (by omega)]
   cases e2 : numR b s2 with
   | error z => rfl
   | ok t =>
    obtain ⟨t1, t2⟩ := t
    have et := get_ok hb e2
    simp only [Option.bind_some, Except.map, Except.bind] at et ⊢
    rw [number_F hk hb hl (by omega) (by omega)]
    cases e3 : numR b t2 with
    | error z => rfl
    | ok o => rfl
 simp only [beq_eq_false_iff_ne.mpr c4, cond_false, if_neg c4]
 by_cases c5 : c = 5
 ·subst c5
  simp only [beq_self_eq_true, if_pos, cond_true]
  cases e1 : numR b (p + 1) with
  | error z => rfl
  | ok s =>
   obtain ⟨s1, s2⟩ := s
   have es := get_ok hb e1
   simp only [Option.bind_some, Except.map, Except.bind] at es ⊢
   rw [number_F hk hb hl (by omega) (by omega)]
   cases e2 : numR b s2 with
   | error z => rfl
   | ok t => rfl
 simp only [beq_eq_false_iff_ne.mpr c5, cond_false, if_neg c5]
 by_cases c17 : c = 17
 ·subst c17
  simp only [beq_self_eq_true, if_pos, cond_true]
  cases e1 : numR b (p + 1) with
  | error z => rfl
  | ok s =>
   obtain ⟨s1, s2⟩ := s
   have es := get_ok hb e1
   simp only [Option.bind_some, Except.map, Except.bind] at es ⊢
   rw [number_F hk hb hl (by omega) (by omega)]
   cases e2 : numR b s2 with
   | error z => rfl
   | ok t => rfl
 simp only [beq_eq_false_iff_ne.mpr c17, cond_false, if_neg c17]
 by_cases c16 : c = 16
 ·subst c16
  simp only [beq_self_eq_true, if_pos (Or.inl rfl), cond_true, true_or, if_true]
  cases e1 : numR b (p + 1) with
  | error z => rfl
  | ok s => rfl
 by_cases c18 : c = 18
 ·subst c18
  simp only [beq_self_eq_true, cond_true, or_true, if_true]
  cases e1 : numR b (p + 1) with
  | error z => rfl
  | ok s => rfl
 simp only [beq_eq_false_iff_ne.mpr c16, beq_eq_false_iff_ne.mpr c18, cond_false, c16, c18, or_self, if_false]
 by_cases c28 : c = 28
 ·subst c28
  simp only [beq_self_eq_true, if_pos, cond_true]
  cases e1 : numR b (p + 1) with
  | error z => rfl
  | ok s =>
   obtain ⟨s1, s2⟩ := s
   have es := get_ok hb e1
   simp only [Option.bind_some, Except.map, Except.bind] at es ⊢
   rw [number_F hk hb hl (by omega) (by omega)]
   cases e2 : numR b s2 with
   | error z => rfl
   | ok t =>
    obtain ⟨t1, t2⟩ := t
    have et := get_ok hb e2
    simp only [Option.bind_some, Except.map, Except.bind] at et ⊢
    rw [take_F hk hb hl (by omega) (by omega) (by omega) (by omega)]
    cases takeR b t2 t1 with
    | error z => rfl
    | ok o => rfl
 simp only [beq_eq_false_iff_ne.mpr c28, cond_false, if_neg c28]
 have hf8 : Int.fdiv c (2 ^ 3) = c / 8 := Int.fdiv_eq_ediv_of_nonneg _ (by decide)
 rw [hf8]
 by_cases c8 : c / 8 = 1
 ·rw [if_pos c8, c8]
  simp only [beq_self_eq_true, cond_true, needs_T hk hb hl, Option.bind_some]
  rw [hs8 c8]
  cases streamR b c p (p + 1) with
  | error z => rfl
  | ok r => rfl
 ·rw [if_neg c8]
  simp only [beq_eq_false_iff_ne.mpr c8, cond_false, needs_N hk hb hl, Option.bind_some]
  rfl
end
end Go.Proofs.Ytpdchohbmmfemaa.X
