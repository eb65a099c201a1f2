import Derived.Test.YtpdchohbmmfemaazFp11
namespace Go.Proofs.Ytpdchohbmmfemaa.X
open Go Go.RowKit Go.Proofs.YtpdchohbmmfemaaW.Rx Go.Proofs.Ytpdchohbmmfemaa.Plain
theorem first_true (b : List Int) (h : Bytes b) (hl : b.length < 4611686018427387904) (l : List Int) (g : Bytes l) (gl : l.length < 4611686018427387904) : ∃ k, law04_FramesFirst.F k b l = some true := ⟨1250, first_F (Nat.le_refl _) b l h g hl gl⟩
end Go.Proofs.Ytpdchohbmmfemaa.X
