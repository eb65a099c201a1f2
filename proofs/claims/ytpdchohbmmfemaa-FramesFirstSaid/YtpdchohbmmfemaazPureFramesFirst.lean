import Derived.Test.YtpdchohbmmfemaazPFirx2
namespace Go.Proofs.Ytpdchohbmmfemaa.Pure
open Go Go.RowKit Go.Proofs.Ytpdchohbmmfemaa.PFir Go.Proofs.YtpdchohbmmfemaaW.PrintWords Go.Proofs.YtpdchohbmmfemaaW.PrintLast
theorem u8r {z : Int} (h : (Lit.int .u8 z).wf = true) : 0 ≤ z ∧ z ≤ 255 := by simpa [Lit.wf, IntKind.min, IntKind.max, IntKind.signed, IntKind.bits] using h
theorem FramesFirst : turnbucklelaw04_FramesFirst.Pure := by
 unfold turnbucklelaw04_FramesFirst.Pure turnbucklelaw04_FramesFirst.f
 intro l0 l1 a0 b0 d0 a1 b1 d1
 exact if_pos ⟨⟨by omega, fun b hb => u8r (d0 b hb)⟩, ⟨by omega, fun b hb => u8r (d1 b hb)⟩⟩
end Go.Proofs.Ytpdchohbmmfemaa.Pure
