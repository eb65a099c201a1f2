import Derived.Test.YtpdchohbmmfemaazPBacx2
namespace Go.Proofs.Ytpdchohbmmfemaa.Pure
open Go Go.RowKit Go.Proofs.Ytpdchohbmmfemaa.PBac Go.Proofs.YtpdchohbmmfemaaW.PrintWords Go.Proofs.YtpdchohbmmfemaaW.PrintLast
theorem u8r {z : Int} (h : (Lit.int .u8 z).wf = true) : 0 ≤ z ∧ z ≤ 255 := by simpa [Lit.wf, IntKind.min, IntKind.max, IntKind.signed, IntKind.bits] using h
theorem FramesBack : turnbucklelaw04_FramesBack.Pure := by
 unfold turnbucklelaw04_FramesBack.Pure turnbucklelaw04_FramesBack.f
 intro l0 a0 b0 d0
 exact if_pos ⟨by omega, fun y hy => ⟨⟨by have := (d0 y hy).2.2.2.2.2.2.1.1; simp only [maxLen] at this; omega, fun b hb => u8r ((d0 y hy).2.2.2.2.2.2.1.2 b hb)⟩, by have := (d0 y hy).2.2.2.2.2.2.2.1; simp only [maxLen] at this; omega⟩⟩
end Go.Proofs.Ytpdchohbmmfemaa.Pure
