import Derived.Test.YtkchgcefmnbebaazRxSeat
namespace Go.Proofs.YtkchgcefmnbebaaW.Rx
open Go Go.RowKit
set_option linter.unusedVariables false
section
variable {α : Type} {P : Program} {Q : Ending → World → Prop} {pin : List (Nat × Nat)} {J : Jt} {L Lu : Nat → Prop} {wu w : World}
variable {R : Ending → World → Prop}
theorem Fine.past {S B L : Nat → Prop} {w w1 w2 : World} (h : Fine S w L w1) (hf : Fine B w1 B w2) (hB : ∀ b, B b → S b ∨ w.heap.size ≤ b) : Fine S w S w2 :=
 ⟨hf.os.trans h.os, hf.tape.trans h.tape, hf.output.trans h.output, Nat.le_trans h.size hf.size, fun b hb hS => by
  rw [hf.keep b (Nat.lt_of_lt_of_le hb h.size) (fun hh => (hB b hh).elim hS (fun h => by omega))]
  exact h.keep b hb hS, fun b hb => Or.inl hb⟩
end
end Go.Proofs.YtkchgcefmnbebaaW.Rx
