import Derived.Test.YtcbpgbfbffnogaaGreatzRxSeat
namespace Go.Proofs.YtcbpgbfbffnogaaGreatW.Rx
open Go Go.RowKit
set_option linter.unusedVariables false
section
variable {α : Type} {P : Program} {Q : Ending → World → Prop} {pin : List (Nat × Nat)} {J : Jt} {L L' Lu : Nat → Prop} {wu w w' : World} {R : FRow α} {base e : Nat} {A : Option Addr} {c : Nat} {xs : List α}
theorem OwnF.vis (h : OwnF base L w e R A c xs) (hv : ∀ b, blk (A, 0, 0) b → ¬ L' b) : OwnF base L' w e R A c xs := ⟨h.1, fun ad ha => ⟨(h.2 ad ha).1, hv _ ⟨ad, ha, rfl⟩⟩⟩
theorem SlR.spot {β : Type} {R : Row β} {x : β} (h : SlR R L w A c [x]) : ∀ a, A = Option.some a → a.spot = Option.none := by
 obtain ⟨⟨cs, h1, h2⟩, h3⟩ := h
 intro a ha
 have hl := h2.length
 have hp := R.pos
 simp only [List.length_cons, List.length_nil, Nat.zero_add, Nat.one_mul] at hl
 obtain ⟨u, hu⟩ : ∃ u, cs[0]? = Option.some u := ⟨_, List.getElem?_eq_getElem (by omega)⟩
 obtain ⟨ad, e, hc, _⟩ := h1 0 u hu
 rw [ha] at e
 cases e
 exact (cell_spot hc).1
theorem SlR.below {β : Type} {R : Row β} {X : Nat → Prop} {l : List β} (h : SlR R X w A c l) (hb : Below w.heap.size w w') : SlR R X w' A c l :=
 SlR.later h (L' := X) ⟨hb.os, hb.tape, hb.output, hb.size, fun k hk _ => hb.block k hk, fun _ h => Or.inl h⟩
end
end Go.Proofs.YtcbpgbfbffnogaaGreatW.Rx
