import Derived.Test.YtkchgcefmnbebaazRxSeat
namespace Go.Proofs.Ytkchgcefmnbebaa.X
open Go Go.RowKit Go.Proofs.YtkchgcefmnbebaaW.Rx
set_option linter.unusedVariables false
theorem slr_of {α : Type} {R : Row α} {w : World} {A : Option Addr} {c : Nat} {l : List α} (hc : l.length ≤ c) (h63 : l.length ≤ 9223372036854775807) (h : ∀ (j : Nat) (x : α), l[j]? = some x → ∃ ad cs, A = some ad ∧ R.rep (fun _ => False) w x cs ∧ ∀ (i : Nat) (u : Value), cs[i]? = some u → w.cell? (ad.add (j * R.n + i)) = some u) : SlR R (fun _ => False) w A c l := by
 have key : ∀ (r : List α) (j : Nat), (∀ i x, r[i]? = some x → l[j + i]? = some x) → ∃ C, Reps R (fun _ => False) w r C ∧ ∀ (t : Nat) (u : Value), C[t]? = some u → ∃ ad, A = some ad ∧ w.cell? (ad.add (j * R.n + t)) = some u := by
  intro r
  induction r with
  | nil => intro j _; exact ⟨[], rfl, fun t u hu => by simp at hu⟩
  | cons x r ih =>
   intro j hr
   obtain ⟨C, h1, h2⟩ := ih (j + 1) (fun i y hy => by
    have := hr (i + 1) y (by simpa using hy)
    rw [show j + 1 + i = j + (i + 1) by omega]; exact this)
   obtain ⟨ad, cs, e, hrep, hcell⟩ := h j x (hr 0 x rfl)
   refine ⟨cs ++ C, ⟨cs, C, rfl, hrep, h1⟩, fun t u hu => ?_⟩
   rcases Nat.lt_or_ge t cs.length with ht | ht
   ·rw [List.getElem?_append_left ht] at hu
    exact ⟨ad, e, hcell t u hu⟩
   ·rw [List.getElem?_append_right ht] at hu
    obtain ⟨ad2, e2, hc2⟩ := h2 _ u hu
    refine ⟨ad2, e2, ?_⟩
    have hl := R.len hrep
    rw [show (j + 1) * R.n + (t - cs.length) = j * R.n + t by rw [Nat.add_mul]; omega] at hc2
    exact hc2
 obtain ⟨C, h1, h2⟩ := key l 0 (fun i x hx => by rw [Nat.zero_add]; exact hx)
 refine ⟨⟨C, fun i u hu => ?_, h1⟩, hc, h63⟩
 obtain ⟨ad, e, hcell⟩ := h2 i u hu
 rw [Nat.zero_mul, Nat.zero_add] at hcell
 exact ⟨ad, e, hcell, fun h => h⟩
theorem slf_of {α : Type} {R : FRow α} {w : World} {A : Option Addr} {c : Nat} {l : List α} (hc : l.length ≤ c) (h63 : l.length ≤ 9223372036854775807) (h : ∀ (j : Nat) (x : α), l[j]? = some x → ∃ ad, A = some ad ∧ ∀ (i : Nat) (u : Value), (R.enc x)[i]? = some u → w.cell? (ad.add (j * R.n + i)) = some u) : SlR R.row (fun _ => False) w A c l :=
 slr_of hc h63 fun j x hx => by
  obtain ⟨ad, e, h1⟩ := h j x hx
  exact ⟨ad, R.enc x, e, rfl, h1⟩
end Go.Proofs.Ytkchgcefmnbebaa.X
