import Derived.Test.YtkchgcefmnbebaazPNobx0
namespace Go.Proofs.Ytkchgcefmnbebaa.PNob
open Go.RowKit Go.Proofs.YtkchgcefmnbebaaW.PrintWords Go.Proofs.YtkchgcefmnbebaaW.PrintLast
set_option linter.unusedVariables false
set_option linter.unusedSimpArgs false
def turnbucklelaw08_SentNobody.f (a0_0 a0_1 a0_2 a0_3 a0_4 : Int) (l0_5 : List S63) : Option (Bool) := some true
theorem turnbucklelaw08_SentNobody.calls (a0_0 a0_1 a0_2 a0_3 a0_4 : Int) (A0_5 : Option Addr) (c0_5 : Nat) (l0_5 : List S63) (r : Bool) (w : World) (hr0_5 : Kd.C k63 w A0_5 l0_5.length l0_5) (hc0_5 : l0_5.length ≤ c0_5) (h : turnbucklelaw08_SentNobody.f a0_0 a0_1 a0_2 a0_3 a0_4 l0_5 = some r) : Calls Try.prog 7 #[.agg #[.int .u8 a0_0, .int .i64 a0_1, .int .i64 a0_2, .int .i64 a0_3, .int .i64 a0_4, .slice A0_5 l0_5.length c0_5]] w fun e w' => e = .returned (.bool r) ∧ Below w.heap.size w w' := by
 unfold turnbucklelaw08_SentNobody.f at h
 obtain rfl : true = r := Option.some.inj h
 exact Go.Proofs.Ytkchgcefmnbebaa.X.law_nobody a0_0 a0_1 a0_2 a0_3 a0_4 A0_5 l0_5.length c0_5 w
def turnbucklelaw08_SentNobody.Pure : Prop := ∀ (a0_0 : Int) (a0_1 : Int) (a0_2 : Int) (a0_3 : Int) (a0_4 : Int) (l0_5 : List (S63)), (Lit.int .u8 a0_0).wf = true → (Lit.int .i64 a0_1).wf = true → (Lit.int .i64 a0_2).wf = true → (Lit.int .i64 a0_3).wf = true → (Lit.int .i64 a0_4).wf = true → l0_5.length ≤ maxLen → (∀ y ∈ l0_5, ((Lit.int .i64 y.f0).wf = true) ∧ ((Lit.int .i64 y.f1).wf = true)) → turnbucklelaw08_SentNobody.f a0_0 a0_1 a0_2 a0_3 a0_4 l0_5 = some true
end Go.Proofs.Ytkchgcefmnbebaa.PNob
