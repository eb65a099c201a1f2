/- Smooth lies between the least sample, less one, and the greatest, and Var is not negative; for every list of samples and every delay. -/
import Derived.Test.YtkkamnkjiebghaaPAllx14
import Derived.Test.YtkkamnkjiebghaaRttPlain
namespace Go.Proofs.Ytkkamnkjiebghaa.Pure
open Go.RowKit Go.Proofs.Ytkkamnkjiebghaa.PAll Go.Proofs.YtkkamnkjiebghaaW.PrintWords Go.Proofs.YtkkamnkjiebghaaW.PrintLast Go.Proofs.YtkkamnkjiebghaaW.PrintMore Go.Proofs.Ytkkamnkjiebghaa.Plain
set_option linter.unusedVariables false

theorem between_alive (k : Nat) (hk : 12 ≤ k) : turnbucklelaw06_alive.f k = some true :=
  at_rounds (fun k => turnbucklelaw06_alive.mono k) hk (by decide +kernel)

def low (x : Int) (l : List Int) : Int := (x :: l).foldl mn x
def high (x : Int) (l : List Int) : Int := (x :: l).foldl mx x
theorem low_snoc (x n : Int) (l : List Int) : low x (l ++ [n]) = mn (low x l) n := by unfold low; rw [← List.cons_append, List.foldl_append]; rfl
theorem high_snoc (x n : Int) (l : List Int) : high x (l ++ [n]) = mx (high x l) n := by unfold high; rw [← List.cons_append, List.foldl_append]; rfl

def Inv2 (p : St × List Int) : Prop := p.1.ok = true ∧ (p.2 = [] → p.1 = s0) ∧ ∀ x l, p.2 = x :: l → p.1.h = true ∧ p.1.a = low x l ∧ p.1.b ≤ high x l ∧ low x l - 1 ≤ p.1.b ∧ 0 ≤ p.1.c ∧ p.1.a ≤ 1099511627776 ∧ 0 ≤ p.1.a

theorem inv2_stp (dl : Int) (p : St × List Int) (h : Inv2 p) (n : Int) : Inv2 (stp dl p n) := by
  refine ⟨stp_ok h.1 n, ?_, ?_⟩
  · unfold stp
    split
    · intro e; simp at e
    · exact h.2.1
  · unfold stp
    split
    · rename_i hc
      simp only [Bool.and_eq_true] at hc
      have hn := (tk_iff n).1 hc.1
      intro x l e
      simp only at e ⊢
      obtain ⟨s, t⟩ := p
      cases t with
      | nil =>
        have hs : s = s0 := h.2.1 rfl
        subst hs
        simp at e
        obtain ⟨rfl, rfl⟩ := e
        simp only [smp, s0, low, high, List.foldl_cons, List.foldl_nil]
        have := mn_le n n
        have := mx_le n n
        simp
        omega
      | cons y t =>
        have hh := h.2.2 y t rfl
        simp at e
        obtain ⟨rfl, rfl⟩ := e
        have cb := cnt_bd s n dl hc.1 hc.2
        have m1 := mn_le s.a n
        have m3 := mx_le (high y t) n
        have m2 := mx_le (s.b - cnt s n dl) (cnt s n dl - s.b)
        simp only at hh
        rw [smp_t hh.1, low_snoc, high_snoc]
        simp only
        rw [← hh.2.1]
        rw [← hh.2.1] at hh
        refine ⟨trivial, rfl, by omega, by omega, by omega, by omega, by omega⟩
    · exact h.2.2
theorem inv2_all (dl : Int) (l : List Int) : ∀ (p : St × List Int), Inv2 p → Inv2 (l.foldl (stp dl) p) := by
  induction l with
  | nil => intro p h; exact h
  | cons n l ih => intro p h; exact ih _ (inv2_stp dl p h n)
theorem taken_len2 (dl : Int) (l : List Int) : ∀ (p : St × List Int), (l.foldl (stp dl) p).2.length ≤ p.2.length + l.length := by
  induction l with
  | nil => intro p; simp
  | cons n l ih =>
    intro p
    have := ih (stp dl p n)
    have h2 : (stp dl p n).2.length ≤ p.2.length + 1 := by unfold stp; split <;> simp
    simp only [List.foldl_cons, List.length_cons]; omega

theorem between_l0 (t : List Int) (hm : t.length ≤ 17592186044415) (s : St) (hc : 0 ≤ s.c) (ha : 0 ≤ s.a) (ha' : s.a ≤ 1099511627776) (d : Nat) : ∀ (k : Nat) (i lo hi : Int), 0 ≤ i → i ≤ t.length → (t.length : Int) - i = d → d + 12 < k →
    s.b ≤ (t.drop i.toNat).foldl mx hi → s.a - 1 ≤ s.b → s.a = (t.drop i.toNat).foldl mn lo →
    turnbucklelaw06_RttBetween.l0 k lo hi t t.length i s.h s.a s.b s.c s.d = some true := by
  induction d with
  | zero =>
    intro k i lo hi h0 h1 hdd hk e1 e2 e3
    obtain ⟨k, rfl⟩ : ∃ m, k = m + 1 := ⟨k - 1, by omega⟩
    rw [show i.toNat = t.length from by omega, List.drop_length] at e1 e3
    simp only [List.foldl_nil] at e1 e3
    simp only [turnbucklelaw06_RttBetween.l0]
    rw [if_neg (by omega), if_pos e1, w64 _ (by omega), if_pos (by omega), if_pos (by omega), between_alive _ (by omega)]
    rfl
  | succ d ih =>
    intro k i lo hi h0 h1 hdd hk e1 e2 e3
    obtain ⟨k, rfl⟩ : ∃ m, k = m + 1 := ⟨k - 1, by omega⟩
    rw [rd_drop t i h0 (by omega), List.foldl_cons] at e1 e3
    simp only [turnbucklelaw06_RttBetween.l0]
    rw [if_pos (by omega), if_pos h0, if_pos (by omega), w64 _ (by omega)]
    exact ih k (i + 1) _ _ (by omega) (by omega) (by omega) (by omega) e1 e2 e3

theorem RttBetween : turnbucklelaw06_RttBetween.Pure := by
  intro l dl _ h8 _ _
  have hm := len_of h8
  refine ⟨2 * l.length + 30, ?_⟩
  unfold turnbucklelaw06_RttBetween.f
  rw [play_f dl l hm _ (by omega)]
  have hi := inv2_all dl l (s0, []) ⟨by rfl, fun _ => rfl, by intro x l e; cases e⟩
  have hl := taken_len2 dl l (s0, [])
  generalize l.foldl (stp dl) (s0, []) = p at hi hl
  obtain ⟨s, t⟩ := p
  simp only [answer, Option.bind_some, if_true]
  rw [turnbucklelaw06_RttBetween.j0]
  cases t with
  | nil =>
    rw [if_pos (by rfl), if_pos rfl, between_alive _ (by omega)]
    rfl
  | cons x t =>
    obtain ⟨hh, ha, hb, hb2, hc, h6, h7⟩ := hi.2.2 x t rfl
    simp only [List.length_nil, Nat.zero_add] at hl
    rw [if_neg (by simp; omega), if_pos (by simp)]
    simp only at ha hb hb2
    exact between_l0 (x :: t) (by omega) s hc h7 h6 (x :: t).length _ 0 _ _ (by omega) (by omega) (by omega) (by omega) (by simpa [rd, high] using hb) (by omega) (by simpa [rd, low] using ha)
end Go.Proofs.Ytkkamnkjiebghaa.Pure
