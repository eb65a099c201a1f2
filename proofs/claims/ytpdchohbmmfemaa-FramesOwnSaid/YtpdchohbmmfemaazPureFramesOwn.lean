import Derived.Test.YtpdchohbmmfemaazPOwnx2
namespace Go.Proofs.Ytpdchohbmmfemaa.Pure
open Go Go.RowKit Go.Proofs.Ytpdchohbmmfemaa.POwn Go.Proofs.YtpdchohbmmfemaaW.PrintWords Go.Proofs.YtpdchohbmmfemaaW.PrintLast
theorem u8r {z : Int} (h : (Lit.int .u8 z).wf = true) : 0 ≤ z ∧ z ≤ 255 := by simpa [Lit.wf, IntKind.min, IntKind.max, IntKind.signed, IntKind.bits] using h
theorem FramesOwn : turnbucklelaw04_FramesOwn.Pure := by
 unfold turnbucklelaw04_FramesOwn.Pure turnbucklelaw04_FramesOwn.f
 intro l0 a0 b0 d0
 exact if_pos ⟨by omega, fun b hb => u8r (d0 b hb)⟩
end Go.Proofs.Ytpdchohbmmfemaa.Pure
