/- What the functions of rtt come to, in plain words: which estimates may be, one sample more, and a row of samples; for numbers that fit 64 bits where that is said. -/
import Derived.Test.YtkkamnkjiebghaaPAllx12
import Derived.Test.YtkkamnkjiebghaaPAllx5
import Derived.Test.YtkkamnkjiebghaaPAllx4
import Derived.Test.YtkkamnkjiebghaaPAllx3
import Derived.Test.YtkkamnkjiebghaaPAllx6
namespace Go.Proofs.Ytkkamnkjiebghaa.Plain
open Go.RowKit Go.Proofs.Ytkkamnkjiebghaa.PAll Go.Proofs.YtkkamnkjiebghaaW.PrintWords Go.Proofs.YtkkamnkjiebghaaW.PrintLast Go.Proofs.YtkkamnkjiebghaaW.PrintMore

set_option linter.unusedVariables false
set_option linter.unusedSimpArgs false
def tk (n : Int) : Bool := decide (0 ≤ n) && decide (n ≤ 1099511627776)
theorem tk_iff (n : Int) : tk n = true ↔ 0 ≤ n ∧ n ≤ 1099511627776 := by simp [tk]

theorem rd_drop (l : List Int) (i : Int) (h0 : 0 ≤ i) (h : i < (l.length : Int)) : l.drop i.toNat = rd l i :: l.drop (i + 1).toNat := by
  have hi : i.toNat < l.length := by omega
  rw [show (i + 1).toNat = i.toNat + 1 from by omega, List.drop_eq_getElem_cons hi]
  simp [rd, hi]

theorem ticks_l0 (l : List Int) (hm : l.length ≤ 9223372036854775807) (d : Nat) : ∀ (k : Nat) (i : Int), 0 ≤ i → i ≤ l.length → (l.length : Int) - i = d → d < k →
    rtt_ticks.l0 k l l.length i = some ((l.drop i.toNat).all tk) := by
  induction d with
  | zero =>
    intro k i h0 h1 hd hk
    obtain ⟨k, rfl⟩ : ∃ m, k = m + 1 := ⟨k - 1, by omega⟩
    simp only [rtt_ticks.l0]
    rw [if_neg (by omega), show i.toNat = l.length from by omega, List.drop_length]; rfl
  | succ d ih =>
    intro k i h0 h1 hd hk
    obtain ⟨k, rfl⟩ : ∃ m, k = m + 1 := ⟨k - 1, by omega⟩
    simp only [rtt_ticks.l0]
    rw [if_pos (by omega), if_pos h0, if_pos (by omega), show wrap64 (i + 1) = i + 1 from by unfold wrap64; omega, ih k (i + 1) (by omega) (by omega) (by omega) (by omega), rd_drop l i h0 (by omega)]
    by_cases c1 : rd l i < 0
    · rw [if_pos c1]; have : tk (rd l i) = false := by rw [← Bool.not_eq_true, tk_iff]; omega
      simp [this]
    · rw [if_neg c1]
      by_cases c2 : rd l i > 1099511627776
      · rw [if_pos c2]; have : tk (rd l i) = false := by rw [← Bool.not_eq_true, tk_iff]; omega
        simp [this]
      · rw [if_neg c2]; have : tk (rd l i) = true := by rw [tk_iff]; omega
        simp [this]
theorem ticks_f (l : List Int) (hm : l.length ≤ 9223372036854775807) (k : Nat) (hk : l.length < k) : rtt_ticks.f k l = some (l.all tk) := by
  unfold rtt_ticks.f
  rw [ticks_l0 l hm l.length k 0 (by omega) (by omega) (by omega) hk]; rfl

def rgt (h : Bool) (a b c d : Int) : Bool := if h then tk a && (tk b && (tk c && tk d)) && decide (a ≤ d) else (a == 0 && (b == 0 && (c == 0 && (d == 0))))
theorem right_f (k : Nat) (hk : 4 < k) (h : Bool) (a b c d : Int) : rtt_Right.f k h a b c d = some (rgt h a b c d) := by
  unfold rtt_Right.f rgt
  rw [ticks_f _ (by simp) k (by simpa using hk)]
  cases h with
  | false => simp only [Bool.not_false, Bool.true_and]; by_cases e : (a == 0 && (b == 0 && (c == 0 && d == 0))) = true <;> simp [e]
  | true => simp only [Bool.not_true, Bool.false_and, List.all_cons, List.all_nil, Bool.and_true, Option.bind_some]; by_cases e : (tk a && (tk b && (tk c && tk d))) = true <;> simp [e]

/-- An estimate: has, least, smooth, var, latest. -/
structure St where
  h : Bool
  a : Int
  b : Int
  c : Int
  d : Int
def St.ok (s : St) : Bool := rgt s.h s.a s.b s.c s.d
def s0 : St := ⟨false, 0, 0, 0, 0⟩
/-- what counts of a sample -/
def cnt (s : St) (x dl : Int) : Int := if x - mn dl 25 ≥ mn s.a x then x - mn dl 25 else x
def smp (s : St) (x dl : Int) : St := if s.h then ⟨true, mn s.a x, (s.b * 7 + cnt s x dl) / 8, (s.c * 3 + mx (s.b - cnt s x dl) (cnt s x dl - s.b)) / 4, x⟩ else ⟨true, x, x, x / 2, x⟩
theorem smp_t {s : St} (h : s.h = true) (x dl : Int) : smp s x dl = ⟨true, mn s.a x, (s.b * 7 + cnt s x dl) / 8, (s.c * 3 + mx (s.b - cnt s x dl) (cnt s x dl - s.b)) / 4, x⟩ := if_pos h
theorem mn_le (a b : Int) : mn a b ≤ a ∧ mn a b ≤ b ∧ (mn a b = a ∨ mn a b = b) := by unfold mn; split <;> omega
theorem mx_le (a b : Int) : a ≤ mx a b ∧ b ≤ mx a b ∧ (mx a b = a ∨ mx a b = b) := by unfold mx; split <;> omega
theorem w64 (n : Int) (h : -9223372036854775808 ≤ n ∧ n ≤ 9223372036854775807) : wrap64 n = n := by unfold wrap64; omega

theorem ok_true {s : St} (h : s.ok = true) (hh : s.h = true) : 0 ≤ s.a ∧ s.a ≤ 1099511627776 ∧ 0 ≤ s.b ∧ s.b ≤ 1099511627776 ∧ 0 ≤ s.c ∧ s.c ≤ 1099511627776 ∧ 0 ≤ s.d ∧ s.d ≤ 1099511627776 ∧ s.a ≤ s.d := by
  unfold St.ok rgt at h
  rw [if_pos hh] at h
  simp only [Bool.and_eq_true, tk_iff, decide_eq_true_eq] at h
  omega
theorem ok_false {s : St} (h : s.ok = true) (hh : s.h = false) : s = s0 := by
  obtain ⟨h', a, b, c, d⟩ := s
  unfold St.ok rgt at h
  simp only at hh
  subst hh
  simp at h
  simp [s0, h]

theorem cnt_bd (s : St) (x dl : Int) (hx : tk x = true) (hd : tk dl = true) : mn s.a x ≤ cnt s x dl ∧ cnt s x dl ≤ x := by
  rw [tk_iff] at hx hd
  have := mn_le dl 25
  have := mn_le s.a x
  unfold cnt
  split <;> omega

theorem smp_ok {s : St} (h : s.ok = true) {x dl : Int} (hx : tk x = true) (hd : tk dl = true) : (smp s x dl).ok = true := by
  have hx' := (tk_iff x).1 hx
  unfold smp
  cases hh : s.h with
  | true =>
    rw [if_pos rfl]
    have b := ok_true h hh
    have cb := cnt_bd s x dl hx hd
    have m1 := mn_le s.a x
    have m2 := mx_le (s.b - cnt s x dl) (cnt s x dl - s.b)
    unfold St.ok rgt
    simp only [if_true, Bool.and_eq_true, tk_iff, decide_eq_true_eq]
    refine ⟨⟨by omega, by omega, by omega, by omega⟩, by omega⟩
  | false =>
    rw [if_neg (by decide)]
    unfold St.ok rgt
    simp only [if_true, Bool.and_eq_true, tk_iff, decide_eq_true_eq]
    refine ⟨⟨by omega, by omega, by omega, by omega⟩, by omega⟩

theorem sample_no (k : Nat) (hk : 5 < k) (s : St) (x dl : Int) (h : (s.ok && (tk x && tk dl)) = false) : rtt_Sample.f k s.h s.a s.b s.c s.d x dl = some (false, 0, 0, 0, 0, 1) := by
  unfold rtt_Sample.f
  obtain ⟨k, rfl⟩ : ∃ m, k = m + 1 := ⟨k - 1, by omega⟩
  rw [right_f _ (by omega), ticks_f _ (by simp) _ (by simp; omega)]
  simp only [Option.bind_some, List.all_cons, List.all_nil, Bool.and_true]
  unfold St.ok at h
  by_cases e : rgt s.h s.a s.b s.c s.d = true
  · rw [if_pos e]
    rw [e, Bool.true_and] at h
    rw [h]
    simp [rtt_Sample.j0]
  · rw [if_neg e]; simp [rtt_Sample.j0]

theorem sample_yes (k : Nat) (hk : 5 < k) (s : St) (x dl : Int) (h : s.ok = true) (hx : tk x = true) (hd : tk dl = true) :
    rtt_Sample.f k s.h s.a s.b s.c s.d x dl = some ((smp s x dl).h, (smp s x dl).a, (smp s x dl).b, (smp s x dl).c, (smp s x dl).d, 0) := by
  unfold rtt_Sample.f
  obtain ⟨k, rfl⟩ : ∃ m, k = m + 1 := ⟨k - 1, by omega⟩
  rw [right_f _ (by omega), ticks_f _ (by simp) _ (by simp; omega)]
  simp only [Option.bind_some, List.all_cons, List.all_nil, Bool.and_true]
  have h' := h
  unfold St.ok at h
  rw [if_pos h, hx, hd]
  have hx' := (tk_iff x).1 hx
  have hd' := (tk_iff dl).1 hd
  simp only [rtt_Sample.j0]
  rw [if_neg (by decide)]
  unfold smp
  cases hh : s.h with
  | false =>
    rw [if_neg (by decide), if_neg (by decide)]
    rw [w64 _ (by rw [Int.tdiv_eq_ediv_of_nonneg hx'.1]; omega), Int.tdiv_eq_ediv_of_nonneg hx'.1]
  | true =>
    rw [if_pos rfl, if_pos rfl]
    have b := ok_true h' hh
    have m0 := mn_le dl 25
    have m1 := mn_le s.a x
    have cb := cnt_bd s x dl hx hd
    have m2 := mx_le (s.b - cnt s x dl) (cnt s x dl - s.b)
    rw [w64 (x - mn dl 25) (by omega), w64 (s.b * 7) (by omega), w64 (s.c * 3) (by omega)]
    have hc : cnt s x dl = if x - mn dl 25 ≥ mn s.a x then x - mn dl 25 else x := rfl
    by_cases e : x - mn dl 25 ≥ mn s.a x
    · rw [if_pos e] at hc ⊢
      rw [← hc]
      generalize cnt s x dl = c at *
      rw [w64 (s.b - c) (by omega), w64 (c - s.b) (by omega), w64 (s.b * 7 + c) (by omega), w64 (s.c * 3 + _) (by omega)]
    · rw [if_neg e] at hc ⊢
      generalize cnt s x dl = c at *
      subst hc
      rw [w64 (s.b - c) (by omega), w64 (c - s.b) (by omega), w64 (s.b * 7 + c) (by omega), w64 (s.c * 3 + _) (by omega)]

/-- A sample more, if it may be, and what was taken. -/
def stp (dl : Int) (p : St × List Int) (n : Int) : St × List Int := if tk n && tk dl then (smp p.1 n dl, p.2 ++ [n]) else p
theorem stp_ok {dl : Int} {p : St × List Int} (h : p.1.ok = true) (n : Int) : (stp dl p n).1.ok = true := by
  unfold stp
  by_cases e : (tk n && tk dl) = true
  · rw [if_pos e]; simp only [Bool.and_eq_true] at e; exact smp_ok h e.1 e.2
  · rw [if_neg e]; exact h
theorem stps_ok {dl : Int} (l : List Int) : ∀ {p : St × List Int}, p.1.ok = true → (l.foldl (stp dl) p).1.ok = true := by
  induction l with
  | nil => intro p h; exact h
  | cons n l ih => intro p h; exact ih (stp_ok h n)

theorem tick_f (n : Int) : turnbuckleref06_Tick.f n = some (tk n) := by
  unfold turnbuckleref06_Tick.f tk
  by_cases e : n ≥ 0
  · rw [if_pos e]; simp [e]
  · rw [if_neg e]; simp [e]

def answer (p : St × List Int) : Option (Bool × Int × Int × Int × Int × List Int × Bool) := some (p.1.h, p.1.a, p.1.b, p.1.c, p.1.d, p.2, true)

theorem play_l0 (dl : Int) (l : List Int) (hm : l.length ≤ 17592186044415) (d : Nat) : ∀ (k : Nat) (i : Int) (s : St) (t : List Int), s.ok = true → 0 ≤ i → i ≤ l.length → (l.length : Int) - i = d → t.length + d ≤ 17592186044415 → 2 * d + 6 < k →
    turnbucklelaw06_play.l0 k dl t l l.length i s.h s.a s.b s.c s.d = answer ((l.drop i.toNat).foldl (stp dl) (s, t)) := by
  induction d with
  | zero =>
    intro k i s t hs h0 h1 hd ht hk
    obtain ⟨k, rfl⟩ : ∃ m, k = m + 1 := ⟨k - 1, by omega⟩
    simp only [turnbucklelaw06_play.l0]
    rw [if_neg (by omega), show i.toNat = l.length from by omega, List.drop_length, right_f _ (by omega)]
    unfold St.ok at hs
    rw [hs]; rfl
  | succ d ih =>
    intro k i s t hs h0 h1 hd ht hk
    obtain ⟨k, rfl⟩ : ∃ m, k = m + 2 := ⟨k - 2, by omega⟩
    simp only [turnbucklelaw06_play.l0]
    rw [if_pos (by omega), if_pos h0, if_pos (by omega), rd_drop l i h0 (by omega), List.foldl_cons]
    generalize rd l i = x
    rw [tick_f, tick_f]
    simp only [Option.bind_some]
    by_cases e : (tk x && tk dl) = true
    · have e' := e
      simp only [Bool.and_eq_true] at e'
      rw [sample_yes _ (by omega) s x dl hs e'.1 e'.2]
      simp only [Option.bind_some]
      rw [if_pos e'.1, e'.2]
      rw [turnbucklelaw06_play.j1]
      rw [if_neg (by decide), if_pos rfl, if_pos (by omega), show wrap64 (i + 1) = i + 1 from w64 _ (by omega)]
      rw [ih k (i + 1) (smp s x dl) (t ++ [x]) (smp_ok hs e'.1 e'.2) (by omega) (by omega) (by omega) (by simp; omega) (by omega)]
      unfold stp
      rw [if_pos e]
    · rw [sample_no _ (by omega) s x dl (by rw [hs, Bool.true_and]; simpa using e)]
      simp only [Option.bind_some]
      have fin : turnbucklelaw06_play.l0 k dl t l l.length (i + 1) s.h s.a s.b s.c s.d = answer ((l.drop (i + 1).toNat).foldl (stp dl) (stp dl (s, t) x)) := by
        rw [ih k (i + 1) s t hs (by omega) (by omega) (by omega) (by omega) (by omega)]
        unfold stp
        rw [if_neg e]
      rw [← fin]
      have hw : wrap64 (i + 1) = i + 1 := w64 _ (by omega)
      by_cases ex : tk x = true
      · rw [if_pos ex]
        have ed : tk dl = false := by rw [ex, Bool.true_and] at e; simpa using e
        rw [ed]
        rw [turnbucklelaw06_play.j1]
        rw [if_neg (by decide), if_neg (by decide), hw]
      · rw [if_neg ex]
        rw [turnbucklelaw06_play.j1]
        rw [if_neg (by decide), if_neg (by decide), hw]

theorem play_f (dl : Int) (l : List Int) (hm : l.length ≤ 17592186044415) (k : Nat) (hk : 2 * l.length + 6 < k) : turnbucklelaw06_play.f k l dl = answer (l.foldl (stp dl) (s0, [])) := by
  unfold turnbucklelaw06_play.f
  have := play_l0 dl l hm l.length k 0 s0 [] (by rfl) (by omega) (by omega) (by omega) (by simpa using hm) hk
  simpa [s0] using this

theorem wf_u8 {m : Int} (h : (Lit.int .u8 m).wf = true) : 0 ≤ m ∧ m ≤ 255 := by simpa [Lit.wf, IntKind.min, IntKind.max, IntKind.signed, IntKind.bits] using h
theorem len_of {l : List Int} (h : l.length * 8 ≤ 140737488351232) : l.length ≤ 17592186044415 := by omega
end Go.Proofs.Ytkkamnkjiebghaa.Plain
