import Derived.Test.YtdjeadgebcndeaaPBckx2
namespace Go.Proofs.Ytdjeadgebcndeaa.Pure
open Go Go.RowKit Go.Proofs.Ytdjeadgebcndeaa.PBck Go.Proofs.YtdjeadgebcndeaaW.PrintWords Go.Proofs.YtdjeadgebcndeaaW.PrintLast
theorem wf_u8 {m : Int} (h : (Lit.int .u8 m).wf = true) : 0 ≤ m ∧ m ≤ 255 := by simpa [Lit.wf, IntKind.min, IntKind.max, IntKind.signed, IntKind.bits] using h
theorem ReasmBack : turnbucklelaw09_ReasmBack.Pure := by
  unfold turnbucklelaw09_ReasmBack.Pure turnbucklelaw09_ReasmBack.f
  intro l0 l1 l2 h1 h2 _ h4 h5 h6 h7 h8 _
  refine if_pos ⟨by omega, by omega, by omega, fun y hy => ?_⟩
  have h := h6 y hy
  have g1 := wf_u8 h.1
  have g2 := wf_u8 h.2
  omega
end Go.Proofs.Ytdjeadgebcndeaa.Pure
