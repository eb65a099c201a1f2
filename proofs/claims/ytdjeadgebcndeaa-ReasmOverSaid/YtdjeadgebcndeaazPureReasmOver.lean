import Derived.Test.YtdjeadgebcndeaazPOvrx2
namespace Go.Proofs.Ytdjeadgebcndeaa.Pure
open Go Go.RowKit Go.Proofs.Ytdjeadgebcndeaa.POvr Go.Proofs.YtdjeadgebcndeaaW.PrintWords Go.Proofs.YtdjeadgebcndeaaW.PrintLast
theorem ReasmOver : turnbucklelaw09_ReasmOver.Pure := by
 unfold turnbucklelaw09_ReasmOver.Pure turnbucklelaw09_ReasmOver.f
 intro a0 l1 _ h2 h3 h4
 refine if_pos ⟨by omega, fun y hy => ?_⟩
 have h := (h4 y hy).2.2.1.1
 simp only [maxLen] at h
 omega
end Go.Proofs.Ytdjeadgebcndeaa.Pure
