import Derived.Test.YtkchgcefmnbebaazPPlyx2
namespace Go.Proofs.Ytkchgcefmnbebaa.Pure
open Go Go.RowKit Go.Proofs.Ytkchgcefmnbebaa.PPly Go.Proofs.YtkchgcefmnbebaaW.PrintWords Go.Proofs.YtkchgcefmnbebaaW.PrintLast
theorem SentPlays : turnbucklelaw08_SentPlays.Pure := by
 unfold turnbucklelaw08_SentPlays.Pure turnbucklelaw08_SentPlays.f
 intro l0 h0 h1 h2
 exact if_pos ⟨by omega, fun y hy => by have := (h2 y hy).2.2.2.2.2.1; simp only [maxLen] at this; omega⟩
end Go.Proofs.Ytkchgcefmnbebaa.Pure
