import Derived.Test.YtdjeadgebcndeaaPRefx2
namespace Go.Proofs.Ytdjeadgebcndeaa.Pure
open Go Go.RowKit Go.Proofs.Ytdjeadgebcndeaa.PRef Go.Proofs.YtdjeadgebcndeaaW.PrintWords Go.Proofs.YtdjeadgebcndeaaW.PrintLast
theorem ReasmRefused : turnbucklelaw09_ReasmRefused.Pure := by
  unfold turnbucklelaw09_ReasmRefused.Pure turnbucklelaw09_ReasmRefused.f
  intro a0 l1 _ h2 h3 h4
  refine if_pos ⟨by omega, fun y hy => ?_⟩
  have h := (h4 y hy).2.2.1.1
  simp only [maxLen] at h
  omega
end Go.Proofs.Ytdjeadgebcndeaa.Pure
