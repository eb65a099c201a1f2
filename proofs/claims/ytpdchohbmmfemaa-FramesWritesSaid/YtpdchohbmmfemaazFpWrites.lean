import Derived.Test.YtpdchohbmmfemaazFpFit
import Derived.Test.YtpdchohbmmfemaazFp12
namespace Go.Proofs.Ytpdchohbmmfemaa.X
open Go Go.RowKit Go.Proofs.YtpdchohbmmfemaaW.Rx Go.Proofs.Ytpdchohbmmfemaa.Plain
theorem writes_true (l : List Fr) (f : FitsQ l) (b : Bys l) (m : List Fr) (g : FitsQ m) (c : Bys m) : ∃ k, law04_FramesWrites.F k l m = some true := by
 obtain ⟨k, hk, h, h2⟩ := fitsq2 f g
 exact ⟨k, writes_F hk l m h b h2 c⟩
end Go.Proofs.Ytpdchohbmmfemaa.X
