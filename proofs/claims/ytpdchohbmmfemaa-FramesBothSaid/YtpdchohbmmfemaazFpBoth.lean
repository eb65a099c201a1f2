import Derived.Test.YtpdchohbmmfemaazFpFit
namespace Go.Proofs.Ytpdchohbmmfemaa.X
open Go Go.RowKit Go.Proofs.YtpdchohbmmfemaaW.Rx Go.Proofs.Ytpdchohbmmfemaa.Plain
theorem both_true (l : List Fr) (f : FitsQ l) (b : Bys l) (m : List Fr) (g : FitsQ m) (c : Bys m) : ∃ k, law04_FramesBoth.F k l m = some true := by
 obtain ⟨k, hk, h, h2⟩ := fitsq2 f g
 exact ⟨k, both_F hk l m h b h2 c⟩
end Go.Proofs.Ytpdchohbmmfemaa.X
