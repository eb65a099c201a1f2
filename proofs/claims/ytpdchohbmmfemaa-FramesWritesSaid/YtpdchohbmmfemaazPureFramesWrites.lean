import Derived.Test.YtpdchohbmmfemaazPWrix2
namespace Go.Proofs.Ytpdchohbmmfemaa.Pure
open Go Go.RowKit Go.Proofs.Ytpdchohbmmfemaa.PWri Go.Proofs.YtpdchohbmmfemaaW.PrintWords Go.Proofs.YtpdchohbmmfemaaW.PrintLast
theorem u8r {z : Int} (h : (Lit.int .u8 z).wf = true) : 0 ≤ z ∧ z ≤ 255 := by simpa [Lit.wf, IntKind.min, IntKind.max, IntKind.signed, IntKind.bits] using h
theorem FramesWrites : turnbucklelaw04_FramesWrites.Pure := by
 unfold turnbucklelaw04_FramesWrites.Pure turnbucklelaw04_FramesWrites.f
 intro l0 l1 a0 b0 d0 a1 b1 d1
 exact if_pos ⟨⟨by omega, fun y hy => ⟨⟨by have := (d0 y hy).2.2.2.2.2.2.1.1; simp only [maxLen] at this; omega, fun b hb => u8r ((d0 y hy).2.2.2.2.2.2.1.2 b hb)⟩, by have := (d0 y hy).2.2.2.2.2.2.2.1; simp only [maxLen] at this; omega⟩⟩, ⟨by omega, fun y hy => ⟨⟨by have := (d1 y hy).2.2.2.2.2.2.1.1; simp only [maxLen] at this; omega, fun b hb => u8r ((d1 y hy).2.2.2.2.2.2.1.2 b hb)⟩, by have := (d1 y hy).2.2.2.2.2.2.2.1; simp only [maxLen] at this; omega⟩⟩⟩
end Go.Proofs.Ytpdchohbmmfemaa.Pure
