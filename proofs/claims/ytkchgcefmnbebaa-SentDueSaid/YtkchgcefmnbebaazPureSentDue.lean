import Derived.Test.YtkchgcefmnbebaazPDuex2
namespace Go.Proofs.Ytkchgcefmnbebaa.Pure
open Go Go.RowKit Go.Proofs.Ytkchgcefmnbebaa.PDue Go.Proofs.YtkchgcefmnbebaaW.PrintWords Go.Proofs.YtkchgcefmnbebaaW.PrintLast
theorem SentDue : turnbucklelaw08_SentDue.Pure := by
 unfold turnbucklelaw08_SentDue.Pure turnbucklelaw08_SentDue.f
 intro l0 a0 h0 h1 h2 _
 exact if_pos ⟨by omega, fun y hy => by have := (h2 y hy).2.2.2.2.2.1; simp only [maxLen] at this; omega⟩
end Go.Proofs.Ytkchgcefmnbebaa.Pure
