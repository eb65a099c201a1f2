import Derived.Test.YtkchgcefmnbebaazSl3
namespace Go.Proofs.Ytkchgcefmnbebaa.X
open Go Go.RowKit Go.Proofs.YtkchgcefmnbebaaW.Rx
set_option linter.unusedVariables false
set_option linter.unusedSimpArgs false
set_option maxRecDepth 20000
section
variable {q : Led} (h : LedT q) (wait : Int)
def q2F (q : Led) : Led := (loseF q 0 1099511627776 (waitB 0 1099511627776)).2
include h
end
abbrev A6 : Nat → LA := fun r => if r = 5 then ⟨[(18, false, [Lf.i .i64])], []⟩ else noA r
theorem fine_lg {S L L' : Nat → Prop} {w w2 w3 : World} {g : Nat} (h : Fine (fun _ => False) w L w2) (g2 : Fine (fun b => L b ∨ lb g b) w2 L' w3) (hg : w.heap.size ≤ g) (hid : ∀ b, L' b → L b ∨ w2.heap.size ≤ b) : Fine (fun _ => False) w L' w3 :=
 Fine.own h g2 (fun b hb => Or.inr (by rcases hb with h | h <;> omega)) hid
end Go.Proofs.Ytkchgcefmnbebaa.X
