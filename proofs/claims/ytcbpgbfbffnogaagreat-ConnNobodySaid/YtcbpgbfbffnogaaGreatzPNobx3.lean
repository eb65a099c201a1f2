import Derived.Test.YtcbpgbfbffnogaaGreatzPNobx0
namespace Go.Proofs.YtcbpgbfbffnogaaGreat.PNob
open Go.RowKit Go.Proofs.YtcbpgbfbffnogaaGreatW.PrintWords Go.Proofs.YtcbpgbfbffnogaaGreatW.PrintLast
set_option linter.unusedVariables false
set_option linter.unusedSimpArgs false
def turnbucklelaw10_ConnNobody.f (a0_0 a0_1 a0_2 a0_3 a0_4 a0_5 : Int) (l0_6 : List Int) (a0_7 : Bool) : Option (Bool) := some true
theorem turnbucklelaw10_ConnNobody.calls (a0_0 a0_1 a0_2 a0_3 a0_4 a0_5 : Int) (A0_6 : Option Addr) (c0_6 : Nat) (l0_6 : List Int) (a0_7 : Bool) (r : Bool) (w : World) (hr0_6 : Kd.C (Kd.int .u8) w A0_6 l0_6.length l0_6) (hc0_6 : l0_6.length ≤ c0_6) (h : turnbucklelaw10_ConnNobody.f a0_0 a0_1 a0_2 a0_3 a0_4 a0_5 l0_6 a0_7 = some r) : Calls Tryz.prog 6 #[.agg #[.int .i64 a0_0, .int .i64 a0_1, .int .i64 a0_2, .int .i64 a0_3, .int .i64 a0_4, .int .u8 a0_5, .slice A0_6 l0_6.length c0_6, .bool a0_7]] w fun e w' => e = .returned (.bool r) ∧ Below w.heap.size w w' := by
 unfold turnbucklelaw10_ConnNobody.f at h
 obtain rfl : true = r := Option.some.inj h
 exact Go.Proofs.YtcbpgbfbffnogaaGreat.X.law_nobody a0_0 a0_2 a0_3 a0_4 a0_5 A0_6 l0_6.length c0_6 a0_1 a0_7 w
def turnbucklelaw10_ConnNobody.Pure : Prop := ∀ (a0_0 : Int) (a0_1 : Int) (a0_2 : Int) (a0_3 : Int) (a0_4 : Int) (a0_5 : Int) (l0_6 : List Int) (a0_7 : Bool), (Lit.int .i64 a0_0).wf = true → (Lit.int .i64 a0_1).wf = true → (Lit.int .i64 a0_2).wf = true → (Lit.int .i64 a0_3).wf = true → (Lit.int .i64 a0_4).wf = true → (Lit.int .u8 a0_5).wf = true → l0_6.length ≤ maxLen → (∀ y ∈ l0_6, (Lit.int .u8 y).wf = true) → turnbucklelaw10_ConnNobody.f a0_0 a0_1 a0_2 a0_3 a0_4 a0_5 l0_6 a0_7 = some true
end Go.Proofs.YtcbpgbfbffnogaaGreat.PNob
