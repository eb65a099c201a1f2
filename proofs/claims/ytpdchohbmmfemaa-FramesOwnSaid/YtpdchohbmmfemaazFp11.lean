import Derived.Test.YtpdchohbmmfemaazFp10
namespace Go.Proofs.Ytpdchohbmmfemaa.X
open Go Go.RowKit Go.Proofs.YtpdchohbmmfemaaW.Rx Go.Proofs.Ytpdchohbmmfemaa.Plain Go.Proofs.YtpdchohbmmfemaaW.PrintWords
set_option linter.unusedVariables false
set_option linter.unusedSimpArgs false
set_option linter.unusedSectionVars false
theorem dec_good {b : List Int} (hb : Bytes b) (hl : b.length ≤ 1200) : ∀ (q : Nat) (acc : List Fr) (p : Int) (r : List Fr), 0 ≤ p → acc.all mayB = true → Bys acc → acc.length ≤ 64 → decR b q acc p = .ok r → r.all mayB = true ∧ Bys r ∧ r.length ≤ 64 := by
 intro q
 induction q with
 | zero => intro acc p r h0 h1 h2 h3 h; cases h; exact ⟨h1, h2, h3⟩
 | succ q ih =>
  intro acc p r h0 h1 h2 h3 h
  rw [decR] at h
  by_cases hp : p < b.length
  ·rw [if_pos hp] at h
   by_cases ha : acc.length < 64
   ·rw [if_pos ha] at h
    obtain ⟨f, hf, h⟩ := bind_ok h
    have hg := frame_good hb hl h0 hp hf
    exact ih _ _ _ (by have := hg.1; omega) (by rw [List.all_append, h1, List.all_cons, hg.2.2.1]; rfl) (fun x hx => (List.mem_append.1 hx).elim (h2 x) (fun e => by rw [List.mem_singleton.1 e]; exact hg.2.2.2)) (by rw [List.length_append, List.length_singleton]; omega) h
   ·rw [if_neg ha] at h; cases h
  ·rw [if_neg hp] at h
   cases h
   exact ⟨h1, h2, h3⟩
theorem decP_good {b : List Int} (hb : Bytes b) (k : Nat) : ∃ l c a, decP b k = (l, c, a) ∧ l.all mayB = true ∧ Bys l ∧ l.length ≤ 64 ∧ ((c = 0 ∧ a = 0) ∨ l = []) := by
 unfold decP
 have he : ([] : List Fr).all mayB = true ∧ Bys [] ∧ ([] : List Fr).length ≤ 64 := ⟨rfl, fun x hx => (by cases hx), by simp⟩
 by_cases h : 1200 < b.length
 ·rw [if_pos h]; exact ⟨[], 6, 0, rfl, he.1, he.2.1, he.2.2, Or.inr rfl⟩
 rw [if_neg h]
 cases hd : decR b k [] 0 with
 | error z => exact ⟨[], z.1, z.2, rfl, he.1, he.2.1, he.2.2, Or.inr rfl⟩
 | ok l =>
  have := dec_good hb (by omega) k [] 0 l (by omega) he.1 he.2.1 he.2.2 hd
  exact ⟨l, 0, 0, rfl, this.1, this.2.1, this.2.2, Or.inl ⟨rfl, rfl⟩⟩
section
variable {b b' : List Int} {m : Nat}
def Loc (b : List Int) (m : Nat) (p : Int) {α : Type} (pl : α → Int) (x x' : Ex α) : Prop :=
 (∀ r, x = .ok r → p ≤ pl r ∧ (pl r ≤ m → pl r < b.length → x' = .ok r)) ∧ (∀ at_, x = .error (5, at_) → p ≤ at_ ∧ (at_ + widthOf (rd b at_) ≤ m → x' = .error (5, at_)))
theorem Loc.bind {p : Int} {α β : Type} {pl : α → Int} {pl2 : β → Int} {x x' : Ex α} {f f' : α → Ex β} (hm : m ≤ b.length) (h : Loc b m p pl x x') (g : ∀ r, x = .ok r → Loc b m (pl r) pl2 (f r) (f' r)) : Loc b m p pl2 (x.bind f) (x'.bind f') := by
 cases hx : x with
 | error z =>
  refine ⟨fun r hr => (by cases hr), fun a ha => ?_⟩
  cases ha
  have := h.2 a hx
  exact ⟨this.1, fun hw => by rw [this.2 hw]; rfl⟩
 | ok r =>
  have h1 := h.1 r hx
  have h2 := g r hx
  refine ⟨fun s hs => ?_, fun a ha => ?_⟩
  ·have hs : f r = .ok s := hs
   have := h2.1 s hs
   refine ⟨by omega, fun hw hw2 => ?_⟩
   rw [h1.2 (by omega) (by omega)]
   exact this.2 hw hw2
  ·have ha : f r = .error (5, a) := ha
   have := h2.2 a ha
   refine ⟨by omega, fun hw => ?_⟩
   have hwd := width_bd (rd b a)
   rw [h1.2 (by omega) (by omega)]
   exact this.2 hw
theorem Loc.pure {p : Int} {α : Type} {pl : α → Int} {r : α} (h : p ≤ pl r) : Loc b m p pl (.ok r) (.ok r) :=
 ⟨fun s hs => (by cases hs; exact ⟨h, fun _ _ => rfl⟩), fun a ha => by cases ha⟩
theorem Loc.no {p : Int} {α : Type} {pl : α → Int} {c z : Int} {x' : Ex α} (h : c ≠ 5) : Loc b m p pl (.error (c, z)) x' :=
 ⟨fun s hs => (by cases hs), fun a ha => by cases ha; exact absurd rfl h⟩
variable (hb : Bytes b) (hb' : Bytes b') (hm : m ≤ b.length) (hm' : m ≤ b'.length) (hs : b.take m = b'.take m)
include hb hb' hm hm' hs
end
end Go.Proofs.Ytpdchohbmmfemaa.X
