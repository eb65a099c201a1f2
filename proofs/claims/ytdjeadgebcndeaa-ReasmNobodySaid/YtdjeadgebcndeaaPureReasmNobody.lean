import Derived.Test.YtdjeadgebcndeaaPNobx1
namespace Go.Proofs.Ytdjeadgebcndeaa.Pure
open Go Go.RowKit Go.Proofs.Ytdjeadgebcndeaa.PNob Go.Proofs.YtdjeadgebcndeaaW.PrintWords Go.Proofs.YtdjeadgebcndeaaW.PrintLast
theorem ReasmNobody : turnbucklelaw09_ReasmNobody.Pure := by
  unfold turnbucklelaw09_ReasmNobody.Pure turnbucklelaw09_ReasmNobody.f
  intro l0 a0 a1 l2 a3 h1 h2 _ _ _ h4 _
  simp only [maxLen] at h4
  exact if_pos ⟨by omega, by omega⟩
end Go.Proofs.Ytdjeadgebcndeaa.Pure
