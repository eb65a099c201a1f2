import Derived.Test.YtpdchohbmmfemaazFpFit
namespace Go.Proofs.Ytpdchohbmmfemaa.X
open Go Go.RowKit Go.Proofs.YtpdchohbmmfemaaW.Rx Go.Proofs.Ytpdchohbmmfemaa.Plain
theorem back_true (l : List Fr) (f : FitsQ l) (b : Bys l) : ∃ k, law04_FramesBack.F k l = some true := by
 obtain ⟨k, hk, h⟩ := fitsq f
 exact ⟨k, back_F hk l h b⟩
end Go.Proofs.Ytpdchohbmmfemaa.X
