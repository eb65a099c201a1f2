/- Spans: a slice of spans, as the statement's row tells it. -/
import Derived.Test.YtnfaneojdfjepaaSq7
namespace Go.Proofs.Ytnfaneojdfjepaa.X
open Go Go.RowKit Go.Proofs.YtnfaneojdfjepaaW.Rx
set_option linter.unusedVariables false
theorem sl_of {α : Type} {R : FRow α} {w : World} {A : Option Addr} {c : Nat} {l : List α} (hc : l.length ≤ c) (h63 : l.length ≤ 9223372036854775807) (h : ∀ (j : Nat) (x : α), l[j]? = some x → ∃ ad, A = some ad ∧ ∀ (i : Nat) (u : Value), (R.enc x)[i]? = some u → w.cell? (ad.add (j * R.n + i)) = some u) : SlR R.row (fun _ => False) w A c l := by
  refine ⟨⟨l.flatMap R.enc, fun i u hu => ?_, reps_flat.2 rfl⟩, hc, h63⟩
  have hi : i < (l.flatMap R.enc).length := (List.getElem?_eq_some_iff.1 hu).1
  rw [flatMap_len] at hi
  have hj : i / R.n < l.length := Nat.div_lt_of_lt_mul (by rw [Nat.mul_comm]; exact hi)
  have hm : i % R.n < R.n := Nat.mod_lt _ R.pos
  obtain ⟨ad, e, hx⟩ := h (i / R.n) l[i / R.n] (List.getElem?_eq_getElem hj)
  obtain ⟨a, ha, hg⟩ := (reps_flat (L := fun _ => False) (w := w) (R := R) (l := l)).2 rfl |>.get (List.getElem?_eq_getElem hj)
  have ha : a = R.enc l[i / R.n] := ha
  subst ha
  have hu2 : (R.enc l[i / R.n])[i % R.n]? = some ((R.enc l[i / R.n])[i % R.n]'(by rw [R.len]; exact hm)) := List.getElem?_eq_getElem _
  have e1 := hg (i % R.n) _ hu2
  have e2 : i / R.n * R.n + i % R.n = i := by rw [Nat.mul_comm]; exact Nat.div_add_mod i R.n
  rw [e2, hu] at e1
  have hcell := hx (i % R.n) _ hu2
  rw [e2, ← Option.some.inj e1] at hcell
  exact ⟨ad, e, hcell, fun h => h⟩
end Go.Proofs.Ytnfaneojdfjepaa.X
