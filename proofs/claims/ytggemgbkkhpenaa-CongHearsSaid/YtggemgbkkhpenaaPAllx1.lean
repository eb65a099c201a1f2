-- written by wip/tools/mp.py, a program of this session, over the printer of the kit, out of the translation
import Derived.Test.YtggemgbkkhpenaaPAllx0
namespace Go.Proofs.Ytggemgbkkhpenaa.PAll
open Go.RowKit Go.Proofs.YtggemgbkkhpenaaW.PrintWords Go.Proofs.YtggemgbkkhpenaaW.PrintLast Go.Proofs.YtggemgbkkhpenaaW.PrintMore
attribute [local go_sem] max2_int min2_int max_two min_two max_three min_three max_four min_four   -- for this text's walks alone
set_option linter.unusedVariables false
set_option linter.unusedSimpArgs false

/-! ### cong_within: function 27 -/

/-! ### cong_Right: function 9 -/

/-! ### turnbucklelaw07_theirs: function 10 -/

/-! ### turnbuckleref07_Right: function 11 -/

/-! ### cong_Room: function 12 -/

/-! ### turnbuckleref07_Room: function 13 -/

/-! ### turnbucklelaw07_ours: function 14 -/

/-! ### cong_New: function 15 -/

/-! ### turnbuckleref07_New: function 16 -/

/-! ### cong_change: function 28 -/

/-! ### cong_Acked: function 18 -/

/-! ### cong_Lost: function 20 -/

/-! ### cong_Sent: function 22 -/

/-! ### turnbucklelaw07_alive: function 17 -/

/-! ### turnbucklelaw07_CongTells: function 3 -/
def turnbucklelaw07_CongTells.f (a0_0 : Int) (a0_1 : Int) (a0_2 : Int) (a0_3 : Int) (a0_4 : Int) : Option (Bool) := some true
theorem turnbucklelaw07_CongTells.calls (a0_0 : Int) (a0_1 : Int) (a0_2 : Int) (a0_3 : Int) (a0_4 : Int) (r : Bool) (w : World) (h : turnbucklelaw07_CongTells.f a0_0 a0_1 a0_2 a0_3 a0_4 = some r) : Calls Try.prog 3 #[.agg #[.int .i64 a0_0, .int .i64 a0_1, .int .i64 a0_2, .int .i64 a0_3, .int .i64 a0_4]] w fun e w' => e = .returned (.bool r) ∧ Below w.heap.size w w' := by
  obtain rfl : true = r := Option.some.inj h
  have h1 := Go.Proofs.Ytggemgbkkhpenaa.X.law07_CongTells.c a0_0 a0_1 a0_2 a0_3 a0_4 w
  rw [Go.Proofs.Ytggemgbkkhpenaa.X.tells_true] at h1
  exact h1
/-- The one plain statement of turnbucklelaw07_CongTells. -/
def turnbucklelaw07_CongTells.Pure : Prop := ∀ (a0_0 : Int) (a0_1 : Int) (a0_2 : Int) (a0_3 : Int) (a0_4 : Int), (Lit.int .i64 a0_0).wf = true → (Lit.int .i64 a0_1).wf = true → (Lit.int .i64 a0_2).wf = true → (Lit.int .i64 a0_3).wf = true → (Lit.int .i64 a0_4).wf = true → turnbucklelaw07_CongTells.f a0_0 a0_1 a0_2 a0_3 a0_4 = some true

/-! ### turnbuckleref07_bytes: function 34 -/

/-! ### turnbuckleref07_Sent: function 23 -/

/-! ### cong_Gone: function 24 -/

/-! ### turnbuckleref07_Gone: function 25 -/

/-! ### turnbucklelaw07_CongSends: function 5 -/
def turnbucklelaw07_CongSends.f (a0_0 : Int) (a0_1 : Int) (a0_2 : Int) (a0_3 : Int) (a0_4 : Int) (a1 : Int) : Option (Bool) := some true
theorem turnbucklelaw07_CongSends.calls (a0_0 : Int) (a0_1 : Int) (a0_2 : Int) (a0_3 : Int) (a0_4 : Int) (a1 : Int) (r : Bool) (w : World) (h : turnbucklelaw07_CongSends.f a0_0 a0_1 a0_2 a0_3 a0_4 a1 = some r) : Calls Try.prog 5 #[.agg #[.int .i64 a0_0, .int .i64 a0_1, .int .i64 a0_2, .int .i64 a0_3, .int .i64 a0_4], .int .i64 a1] w fun e w' => e = .returned (.bool r) ∧ Below w.heap.size w w' := by
  obtain rfl : true = r := Option.some.inj h
  have h1 := Go.Proofs.Ytggemgbkkhpenaa.X.law07_CongSends.c a0_0 a0_1 a0_2 a0_3 a0_4 a1 w
  rw [Go.Proofs.Ytggemgbkkhpenaa.X.sends_true] at h1
  exact h1
/-- The one plain statement of turnbucklelaw07_CongSends. -/
def turnbucklelaw07_CongSends.Pure : Prop := ∀ (a0_0 : Int) (a0_1 : Int) (a0_2 : Int) (a0_3 : Int) (a0_4 : Int) (a1 : Int), (Lit.int .i64 a0_0).wf = true → (Lit.int .i64 a0_1).wf = true → (Lit.int .i64 a0_2).wf = true → (Lit.int .i64 a0_3).wf = true → (Lit.int .i64 a0_4).wf = true → (Lit.int .i64 a1).wf = true → turnbucklelaw07_CongSends.f a0_0 a0_1 a0_2 a0_3 a0_4 a1 = some true

/-! ### turnbuckleref07_time: function 31 -/

/-! ### turnbuckleref07_Acked: function 19 -/

/-! ### turnbuckleref07_Lost: function 21 -/

/-! ### turnbucklelaw07_CongHears: function 4 -/
def turnbucklelaw07_CongHears.f (a0_0 : Int) (a0_1 : Int) (a0_2 : Int) (a0_3 : Int) (a0_4 : Int) (a1 : Int) (a2_0 : Int) (a2_1 : Int) : Option (Bool) := some true
theorem turnbucklelaw07_CongHears.calls (a0_0 : Int) (a0_1 : Int) (a0_2 : Int) (a0_3 : Int) (a0_4 : Int) (a1 : Int) (a2_0 : Int) (a2_1 : Int) (r : Bool) (w : World) (h : turnbucklelaw07_CongHears.f a0_0 a0_1 a0_2 a0_3 a0_4 a1 a2_0 a2_1 = some r) : Calls Try.prog 4 #[.agg #[.int .i64 a0_0, .int .i64 a0_1, .int .i64 a0_2, .int .i64 a0_3, .int .i64 a0_4], .int .i64 a1, .agg #[.int .i64 a2_0, .int .i64 a2_1]] w fun e w' => e = .returned (.bool r) ∧ Below w.heap.size w w' := by
  obtain rfl : true = r := Option.some.inj h
  have h1 := Go.Proofs.Ytggemgbkkhpenaa.X.law07_CongHears.c a0_0 a0_1 a0_2 a0_3 a0_4 a1 a2_0 a2_1 w
  rw [Go.Proofs.Ytggemgbkkhpenaa.X.hears_true] at h1
  exact h1
/-- The one plain statement of turnbucklelaw07_CongHears. -/
def turnbucklelaw07_CongHears.Pure : Prop := ∀ (a0_0 : Int) (a0_1 : Int) (a0_2 : Int) (a0_3 : Int) (a0_4 : Int) (a1 : Int) (a2_0 : Int) (a2_1 : Int), (Lit.int .i64 a0_0).wf = true → (Lit.int .i64 a0_1).wf = true → (Lit.int .i64 a0_2).wf = true → (Lit.int .i64 a0_3).wf = true → (Lit.int .i64 a0_4).wf = true → (Lit.int .i64 a1).wf = true → (Lit.int .i64 a2_0).wf = true → (Lit.int .i64 a2_1).wf = true → turnbucklelaw07_CongHears.f a0_0 a0_1 a0_2 a0_3 a0_4 a1 a2_0 a2_1 = some true

end Go.Proofs.Ytggemgbkkhpenaa.PAll
