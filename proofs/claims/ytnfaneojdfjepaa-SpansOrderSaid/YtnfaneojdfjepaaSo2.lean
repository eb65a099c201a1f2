/- Spans: in any order: what is added up is told by which numbers are in it. -/
import Derived.Test.YtnfaneojdfjepaaSo1
import Derived.Test.YtnfaneojdfjepaaSq10
namespace Go.Proofs.Ytnfaneojdfjepaa.X
open Go Go.RowKit Go.Proofs.YtnfaneojdfjepaaW.Rx
set_option linter.unusedVariables false
theorem any_in {n : Int} {x : Int × Int} {l : Sps} : (x :: l).any (inS n) = true ↔ (x.1 ≤ n ∧ n ≤ x.2) ∨ l.any (inS n) = true := by
  rw [List.any_cons, Bool.or_eq_true, inS_iff]
theorem any_ge {m n : Int} {l : Sps} (hr : Rise m l) (h : l.any (inS n) = true) : m ≤ n := by
  rcases Int.lt_or_le n m with hn | hn
  · rw [none_below hr hn] at h; cases h
  · exact hn
theorem rise_ext : ∀ (s t : Sps) (m : Int), Rise m s → Rise m t → (∀ n, s.any (inS n) = true ↔ t.any (inS n) = true) → s = t
  | [], [], _, _, _, _ => rfl
  | [], y :: t, m, _, ht, h => by
    have := rise_mem ht y (by simp)
    have h2 := (h y.1).2 (any_in.2 (Or.inl ⟨Int.le_refl _, this.2.2.1⟩))
    simp at h2
  | x :: s, [], m, hs, _, h => by
    have := rise_mem hs x (by simp)
    have h2 := (h x.1).1 (any_in.2 (Or.inl ⟨Int.le_refl _, this.2.2.1⟩))
    simp at h2
  | x :: s, y :: t, m, hs, ht, h => by
    have sx := (rise_mem hs x (by simp)).2
    have sy := (rise_mem ht y (by simp)).2
    obtain ⟨hs1, hs2, hs3⟩ : m ≤ x.1 ∧ Sp x ∧ Rise (x.2 + 2) s := hs
    obtain ⟨ht1, ht2, ht3⟩ : m ≤ y.1 ∧ Sp y ∧ Rise (y.2 + 2) t := ht
    have a1 : y.1 ≤ x.1 := by
      rcases any_in.1 ((h x.1).1 (any_in.2 (Or.inl ⟨Int.le_refl _, sx.2.1⟩))) with h1 | h1
      · exact h1.1
      · have := any_ge ht3 h1; have := sy.2.1; omega
    have a2 : x.1 ≤ y.1 := by
      rcases any_in.1 ((h y.1).2 (any_in.2 (Or.inl ⟨Int.le_refl _, sy.2.1⟩))) with h1 | h1
      · exact h1.1
      · have := any_ge hs3 h1; have := sx.2.1; omega
    have b1 : y.2 ≤ x.2 := by
      rcases Int.lt_or_le x.2 y.2 with hlt | hle
      · exfalso
        rcases any_in.1 ((h (x.2 + 1)).2 (any_in.2 (Or.inl ⟨by have := sx.2.1; omega, by omega⟩))) with h1 | h1
        · omega
        · have := any_ge hs3 h1; omega
      · exact hle
    have b2 : x.2 ≤ y.2 := by
      rcases Int.lt_or_le y.2 x.2 with hlt | hle
      · exfalso
        rcases any_in.1 ((h (y.2 + 1)).1 (any_in.2 (Or.inl ⟨by have := sy.2.1; omega, by omega⟩))) with h1 | h1
        · omega
        · have := any_ge ht3 h1; omega
      · exact hle
    have exy : x = y := Prod.ext (by omega) (by omega)
    subst exy
    congr 1
    refine rise_ext s t (x.2 + 2) hs3 ht3 fun n => ⟨fun h1 => ?_, fun h1 => ?_⟩
    · rcases any_in.1 ((h n).1 (any_in.2 (Or.inr h1))) with h2 | h2
      · have := any_ge hs3 h1; omega
      · exact h2
    · rcases any_in.1 ((h n).2 (any_in.2 (Or.inr h1))) with h2 | h2
      · have := any_ge ht3 h1; omega
      · exact h2
theorem stp_set {la : Sps} {x : Int × Int} (hr : RightB la) (hl : la.length < 256) : RightB (stp la x) ∧ (stp la x).length ≤ la.length + 1 ∧ ∀ n, (stp la x).any (inS n) = true ↔ la.any (inS n) = true ∨ (Sp x ∧ inS n x = true) := by
  by_cases hs : Sp x
  · obtain ⟨A, B, C, e, hc, h1, _⟩ := add_F hr (a := x.1) (b := x.2) hs (k := 600) (by omega)
    obtain ⟨h2, h3⟩ := add_set hr.1 (a := x.1) (b := x.2) hs e hc
    generalize ho : A ++ [(loB x.1 B, hiB x.2 B)] ++ C = out at h1 h2 h3
    have hlen : out.length ≤ la.length + 1 := by rw [← ho, e]; simp; omega
    have hst : stp la x = out := by
      unfold stp res at *
      rw [h1, if_neg (by omega)]
      exact if_pos rfl
    rw [hst]
    refine ⟨⟨h2, by omega⟩, hlen, fun n => ?_⟩
    rw [h3 n, Bool.or_eq_true, Bool.and_eq_true, decide_eq_true_eq, decide_eq_true_eq, inS_iff]
    exact ⟨fun h => h.elim (fun h => Or.inr ⟨hs, h⟩) Or.inl, fun h => h.elim Or.inr (fun h => Or.inl h.2)⟩
  · have hst : stp la x = la := by
      unfold stp
      rw [(add_bad (k := 600) (by omega) (fun h => hs h.2) (by omega)).1]
      rfl
    rw [hst]
    exact ⟨hr, by omega, fun n => ⟨Or.inl, fun h => h.elim id (fun h => absurd h.1 hs)⟩⟩
def run (x : Nat → Int × Int) : Nat → Sps
  | 0 => []
  | i + 1 => stp (run x i) (x i)
theorem ostate_run (x y : Nat → Int × Int) : ∀ i, ostate x y i = (run x i, run y i)
  | 0 => rfl
  | i + 1 => by show (stp (ostate x y i).1 (x i), stp (ostate x y i).2 (y i)) = _; rw [ostate_run x y i]; rfl
theorem run_set (x : Nat → Int × Int) : ∀ i, i ≤ 200 → RightB (run x i) ∧ (run x i).length ≤ i ∧ ∀ n, (run x i).any (inS n) = true ↔ ∃ k, k < i ∧ Sp (x k) ∧ inS n (x k) = true
  | 0, _ => ⟨⟨trivial, by simp [run]⟩, by simp [run], fun n => by simp [run]⟩
  | i + 1, hi => by
    obtain ⟨h1, h2, h3⟩ := run_set x i (by omega)
    obtain ⟨h4, h5, h6⟩ := stp_set (x := x i) h1 (by omega)
    refine ⟨h4, by show (stp (run x i) (x i)).length ≤ _; omega, fun n => ?_⟩
    show (stp (run x i) (x i)).any (inS n) = true ↔ _
    rw [h6 n, h3 n]
    constructor
    · rintro (⟨k, hk, h⟩ | h)
      · exact ⟨k, by omega, h⟩
      · exact ⟨i, by omega, h⟩
    · rintro ⟨k, hk, h⟩
      rcases Nat.lt_or_ge k i with hki | hki
      · exact Or.inl ⟨k, hki, h⟩
      · obtain rfl : k = i := by omega
        exact Or.inr h
theorem turn_back {n t k : Nat} (ht : t < n) (hk : k < n) : (n - 1 - ((n - 1 - k + t) % n) + t) % n = k := by
  rcases Nat.lt_or_ge (n - 1 - k + t) n with h | h
  · rw [Nat.mod_eq_of_lt h, show n - 1 - (n - 1 - k + t) + t = k by omega]
    exact Nat.mod_eq_of_lt hk
  · rw [Nat.mod_eq_sub_mod h, Nat.mod_eq_of_lt (show n - 1 - k + t - n < n by omega), show n - 1 - (n - 1 - k + t - n) + t = n + k by omega, Nat.add_mod_left]
    exact Nat.mod_eq_of_lt hk
theorem order_law {l : Sps} (t : Nat) (x y : Nat → Int × Int) (hn : 0 < l.length) (hn2 : l.length ≤ 200) (ht : t < l.length) (hx : ∀ i, i < l.length → l[i]? = some (x i)) (hy : ∀ i, i < l.length → l[(l.length - 1 - i + t) % l.length]? = some (y i)) :
    ref05_Same.F 600 (ostate x y l.length).1 (ostate x y l.length).2 = some true ∧ ref05_Right.F 600 (ostate x y l.length).1 = some true := by
  rw [ostate_run]
  obtain ⟨h1, h2, h3⟩ := run_set x l.length hn2
  obtain ⟨h4, h5, h6⟩ := run_set y l.length hn2
  have hyx : ∀ k, k < l.length → y k = x ((l.length - 1 - k + t) % l.length) := fun k hk => Option.some.inj ((hy k hk).symm.trans (hx _ (Nat.mod_lt _ hn)))
  have e : run x l.length = run y l.length := rise_ext _ _ 0 h1.1 h4.1 fun n => by
    rw [h3 n, h6 n]
    constructor
    · rintro ⟨k, hk, h⟩
      refine ⟨(l.length - 1 - k + t) % l.length, Nat.mod_lt _ hn, ?_⟩
      rw [hyx _ (Nat.mod_lt _ hn), turn_back ht hk]; exact h
    · rintro ⟨k, hk, h⟩
      rw [hyx k hk] at h
      exact ⟨_, Nat.mod_lt _ hn, h⟩
  exact ⟨(same_F (l := run x l.length) (m := run y l.length) (by omega) (k := 600) (by omega)).trans (by simp [e]), (refRight_F (l := run x l.length) (by omega) (k := 600) (by omega)).trans (by simp [h1])⟩
end Go.Proofs.Ytnfaneojdfjepaa.X
