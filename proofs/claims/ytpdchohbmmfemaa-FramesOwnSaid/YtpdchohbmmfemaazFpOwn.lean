import Derived.Test.YtpdchohbmmfemaazFp11
import Derived.Test.YtpdchohbmmfemaazOf2
import Derived.Test.YtpdchohbmmfemaazOf4
namespace Go.Proofs.Ytpdchohbmmfemaa.X
open Go Go.RowKit Go.Proofs.YtpdchohbmmfemaaW.Rx Go.Proofs.Ytpdchohbmmfemaa.Plain
theorem own_F {k : Nat} (hk : 1250 ≤ k) (b : List Int) (hb : Bytes b) : law04_FramesOwn.F k b = some true := by
 unfold law04_FramesOwn.F
 rw [numsOf_of hb, Decode_F hk hb, rDecode_F hk hb, alive_F hk]
 obtain ⟨l, c, a, e, hm, hby, h64, hc⟩ := decP_good hb k
 rw [e]
 have hf : Fits k l := fits_may hk (by omega) hm
 simp only [Option.bind_some]
 rw [rsame_F k l l hf hby hby, decide_eq_true rfl]
 simp
theorem own_true (b : List Int) (h : Bytes b) (_ : b.length < 4611686018427387904) : ∃ k, law04_FramesOwn.F k b = some true := ⟨1250, own_F (Nat.le_refl _) b h⟩
end Go.Proofs.Ytpdchohbmmfemaa.X
