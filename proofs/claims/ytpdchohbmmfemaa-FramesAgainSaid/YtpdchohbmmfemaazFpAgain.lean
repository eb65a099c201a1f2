import Derived.Test.YtpdchohbmmfemaazFp11
namespace Go.Proofs.Ytpdchohbmmfemaa.X
open Go Go.RowKit Go.Proofs.YtpdchohbmmfemaaW.Rx Go.Proofs.Ytpdchohbmmfemaa.Plain
theorem again_true (b : List Int) (h : Bytes b) (_ : b.length < 4611686018427387904) : ∃ k, law04_FramesAgain.F k b = some true := ⟨1250, again_F (Nat.le_refl _) b h⟩
end Go.Proofs.Ytpdchohbmmfemaa.X
