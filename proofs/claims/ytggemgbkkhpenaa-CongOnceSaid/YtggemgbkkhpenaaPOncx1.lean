-- written by wip/tools/mp.py, a program of this session, over the printer of the kit, out of the translation
import Derived.Test.YtggemgbkkhpenaaPOncx0
namespace Go.Proofs.Ytggemgbkkhpenaa.POnc
open Go.RowKit Go.Proofs.YtggemgbkkhpenaaW.PrintWords Go.Proofs.YtggemgbkkhpenaaW.PrintLast Go.Proofs.YtggemgbkkhpenaaW.PrintMore
attribute [local go_sem] max2_int min2_int max_two min_two max_three min_three max_four min_four   -- for this text's walks alone
set_option linter.unusedVariables false
set_option linter.unusedSimpArgs false

/-! ### cong_New: function 15 -/

/-! ### cong_within: function 27 -/

/-! ### cong_Right: function 9 -/

/-! ### cong_Room: function 12 -/

/-! ### cong_change: function 28 -/

/-! ### cong_Acked: function 18 -/

/-! ### cong_Lost: function 20 -/

/-! ### cong_Sent: function 22 -/

/-! ### turnbucklelaw07_alive: function 17 -/

/-! ### cong_Gone: function 24 -/

/-! ### turnbucklelaw07_does: function 26 -/

/-! ### turnbucklelaw07_CongOnce: function 7 -/
def turnbucklelaw07_CongOnce.f (l0 : List S48) (a1 : Int) (a2 : Int) : Option (Bool) := if l0.length < 2 ^ 60 then some true else none
theorem turnbucklelaw07_CongOnce.calls (A0 : Option Addr) (c0 : Nat) (l0 : List S48) (a1 : Int) (a2 : Int) (r : Bool) (w : World) (hr0 : Kd.C k48 w A0 l0.length l0) (hc0 : l0.length ≤ c0) (h : turnbucklelaw07_CongOnce.f l0 a1 a2 = some r) : Calls Try.prog 7 #[.slice A0 l0.length c0, .int .u8 a1, .int .i64 a2] w fun e w' => e = .returned (.bool r) ∧ Below w.heap.size w w' := by
  unfold turnbucklelaw07_CongOnce.f at h
  split at h
  case isFalse => cases h
  rename_i hl
  obtain rfl : true = r := Option.some.inj h
  refine Go.Proofs.Ytggemgbkkhpenaa.X.once.c A0 l0.length c0 a1 a2 hl (fun j => ((l0.getD j z48).f0, (l0.getD j z48).f1, (l0.getD j z48).f2, (l0.getD j z48).f3)) w ?_
  intro j hj
  obtain ⟨ad, c, e, _, hK, hc⟩ := Kd.C_get hr0 z48 (j : Int) (by omega) (by omega)
  obtain rfl := k48_open hK
  exact ⟨ad, e, fun i u hu => hc i u hu⟩
/-- The one plain statement of turnbucklelaw07_CongOnce. -/
def turnbucklelaw07_CongOnce.Pure : Prop := ∀ (l0 : List (S48)) (a1 : Int) (a2 : Int), l0.length ≤ maxLen → l0.length * 32 ≤ 140737488351232 → (∀ y ∈ l0, ((Lit.int .u8 y.f0).wf = true) ∧ ((Lit.int .i64 y.f1).wf = true) ∧ ((Lit.int .i64 y.f2).wf = true) ∧ ((Lit.int .i64 y.f3).wf = true)) → (Lit.int .u8 a1).wf = true → (Lit.int .i64 a2).wf = true → turnbucklelaw07_CongOnce.f l0 a1 a2 = some true

end Go.Proofs.Ytggemgbkkhpenaa.POnc
