/- Least is the least of all samples that were taken, and Latest the last one; for every list of samples and every delay. -/
import Derived.Test.YtkkamnkjiebghaaPAllx12
import Derived.Test.YtkkamnkjiebghaaRttPlain
namespace Go.Proofs.Ytkkamnkjiebghaa.Pure
open Go.RowKit Go.Proofs.Ytkkamnkjiebghaa.PAll Go.Proofs.YtkkamnkjiebghaaW.PrintWords Go.Proofs.YtkkamnkjiebghaaW.PrintLast Go.Proofs.YtkkamnkjiebghaaW.PrintMore Go.Proofs.Ytkkamnkjiebghaa.Plain
set_option linter.unusedVariables false

theorem least_alive (k : Nat) (hk : 12 ≤ k) : turnbucklelaw06_alive.f k = some true :=
  at_rounds (fun k => turnbucklelaw06_alive.mono k) hk (by decide +kernel)

/-- what holds of what was taken so far -/
def Inv (p : St × List Int) : Prop := p.1.ok = true ∧ (p.2 = [] → p.1 = s0) ∧ ∀ x l, p.2 = x :: l → p.1.h = true ∧ p.1.a = (x :: l).foldl mn x ∧ (x :: l).getLast? = some p.1.d

theorem inv_stp (dl : Int) (p : St × List Int) (h : Inv p) (n : Int) : Inv (stp dl p n) := by
  refine ⟨stp_ok h.1 n, ?_, ?_⟩
  · unfold stp
    split
    · intro e; simp at e
    · exact h.2.1
  · unfold stp
    split
    · intro x l e
      simp only at e ⊢
      obtain ⟨s, t⟩ := p
      cases t with
      | nil =>
        have hs : s = s0 := h.2.1 rfl
        subst hs
        simp at e
        obtain ⟨rfl, rfl⟩ := e
        simp [smp, s0, mn]
      | cons y t =>
        have := h.2.2 y t rfl
        simp at e
        obtain ⟨rfl, rfl⟩ := e
        simp only at this
        rw [smp_t this.1]
        refine ⟨rfl, ?_, ?_⟩
        · rw [← List.cons_append, List.foldl_append, ← this.2.1]; rfl
        · simp only [← List.cons_append, List.getLast?_append]; simp
    · exact h.2.2
theorem inv_all (dl : Int) (l : List Int) : ∀ (p : St × List Int), Inv p → Inv (l.foldl (stp dl) p) := by
  induction l with
  | nil => intro p h; exact h
  | cons n l ih => intro p h; exact ih _ (inv_stp dl p h n)
theorem taken_len (dl : Int) (l : List Int) : ∀ (p : St × List Int), (l.foldl (stp dl) p).2.length ≤ p.2.length + l.length := by
  induction l with
  | nil => intro p; simp
  | cons n l ih =>
    intro p
    have := ih (stp dl p n)
    have h2 : (stp dl p n).2.length ≤ p.2.length + 1 := by unfold stp; split <;> simp
    simp only [List.foldl_cons, List.length_cons]; omega

theorem least_l0 (t : List Int) (hm : t.length ≤ 17592186044415) (s : St) (hne : 0 < t.length) (hh : s.h = true) (hd : t.getLast? = some s.d) (d : Nat) : ∀ (k : Nat) (i m : Int), 0 ≤ i → i ≤ t.length → (t.length : Int) - i = d → d < k → s.a = (t.drop i.toNat).foldl mn m →
    turnbucklelaw06_RttLeast.l0 k t m t t.length i s.h s.a s.b s.c s.d = some true := by
  induction d with
  | zero =>
    intro k i m h0 h1 hdd hk ha
    obtain ⟨k, rfl⟩ : ∃ m, k = m + 1 := ⟨k - 1, by omega⟩
    rw [show i.toNat = t.length from by omega, List.drop_length] at ha
    simp only [turnbucklelaw06_RttLeast.l0]
    rw [if_neg (by omega), if_pos hh, if_pos (by simpa using ha), w64 _ (by omega), if_pos (by omega), if_pos (by omega)]
    have : rd t ((t.length : Int) - 1) = s.d := by
      rw [List.getLast?_eq_getElem?] at hd
      unfold rd
      rw [show ((t.length : Int) - 1).toNat = t.length - 1 from by omega, List.getD_eq_getElem?_getD, hd]; rfl
    rw [this]; simp
  | succ d ih =>
    intro k i m h0 h1 hdd hk ha
    obtain ⟨k, rfl⟩ : ∃ m, k = m + 1 := ⟨k - 1, by omega⟩
    rw [rd_drop t i h0 (by omega), List.foldl_cons] at ha
    simp only [turnbucklelaw06_RttLeast.l0]
    rw [if_pos (by omega), if_pos h0, if_pos (by omega), w64 _ (by omega)]
    exact ih k (i + 1) _ (by omega) (by omega) (by omega) (by omega) ha

theorem RttLeast : turnbucklelaw06_RttLeast.Pure := by
  intro l dl _ h8 _ _
  have hm := len_of h8
  refine ⟨2 * l.length + 20, ?_⟩
  unfold turnbucklelaw06_RttLeast.f
  rw [play_f dl l hm _ (by omega)]
  have hi := inv_all dl l (s0, []) ⟨by rfl, fun _ => rfl, by intro x l e; cases e⟩
  have hl := taken_len dl l (s0, [])
  generalize l.foldl (stp dl) (s0, []) = p at hi hl
  obtain ⟨s, t⟩ := p
  simp only [answer, Option.bind_some, if_true]
  rw [least_alive _ (by omega)]
  simp only [Option.bind_some, Bool.not_true]
  rw [turnbucklelaw06_RttLeast.j0]
  rw [if_neg (by decide)]
  cases t with
  | nil =>
    have : s = s0 := hi.2.1 rfl
    subst this
    rfl
  | cons x t =>
    obtain ⟨hh, ha, hd⟩ := hi.2.2 x t rfl
    simp only [List.length_nil, Nat.zero_add] at hl
    rw [if_neg (by simp; omega), if_pos (by simp)]
    exact least_l0 (x :: t) (by omega) s (by simp) hh hd (x :: t).length _ 0 _ (by omega) (by omega) (by omega) (by omega) (by simpa [rd] using ha)
end Go.Proofs.Ytkkamnkjiebghaa.Pure
