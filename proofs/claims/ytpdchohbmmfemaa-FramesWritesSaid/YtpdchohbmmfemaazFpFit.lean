import Derived.Test.YtpdchohbmmfemaazFp10
namespace Go.Proofs.Ytpdchohbmmfemaa.X
open Go Go.RowKit Go.Proofs.YtpdchohbmmfemaaW.Rx Go.Proofs.Ytpdchohbmmfemaa.Plain
structure FitsQ (l : List Fr) : Prop where
 len : l.length < 9223372036854775808
 el : ∀ x ∈ l, x.2.2.2.2.2.2.2.length < 9223372036854775808 ∧ x.2.2.2.2.2.2.1.length < 9223372036854775808
def big (l : List Fr) : Nat := l.length + (l.map fun x => x.2.2.2.2.2.2.2.length + x.2.2.2.2.2.2.1.length).sum
theorem le_sum (l : List Fr) : ∀ x ∈ l, x.2.2.2.2.2.2.2.length + x.2.2.2.2.2.2.1.length ≤ (l.map fun x => x.2.2.2.2.2.2.2.length + x.2.2.2.2.2.2.1.length).sum := by
 induction l with
 | nil => intro x hx; cases hx
 | cons y l ih =>
  intro x hx
  rw [List.map_cons, List.sum_cons]
  rcases List.mem_cons.1 hx with rfl | hx
  ·omega
  ·have := ih x hx; omega
theorem fits_big {l : List Fr} (f : FitsQ l) {k : Nat} (hk : big l + 20 < k) : Fits k l := by
 unfold big at hk
 refine ⟨⟨f.len, by omega⟩, fun x hx => ?_⟩
 have := le_sum l x hx
 have := f.el x hx
 omega
theorem fitsq2 {l m : List Fr} (f : FitsQ l) (g : FitsQ m) : ∃ k, 1250 ≤ k ∧ Fits k l ∧ Fits k m := ⟨big l + big m + 1250, by omega, fits_big f (by omega), fits_big g (by omega)⟩
end Go.Proofs.Ytpdchohbmmfemaa.X
