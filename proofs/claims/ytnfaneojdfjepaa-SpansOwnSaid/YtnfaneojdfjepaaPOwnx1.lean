-- written by wip/tools/mp.py, a program of this session, over the printer of the kit, out of the translation
import Derived.Test.YtnfaneojdfjepaaPOwnx0
namespace Go.Proofs.Ytnfaneojdfjepaa.POwn
open Go.RowKit Go.Proofs.YtnfaneojdfjepaaW.PrintWords Go.Proofs.YtnfaneojdfjepaaW.PrintLast Go.Proofs.YtnfaneojdfjepaaW.PrintMore
attribute [local go_sem] max2_int min2_int max_two min_two max_three min_three max_four min_four   -- for this text's walks alone
set_option linter.unusedVariables false
set_option linter.unusedSimpArgs false

/-! ### spans_isSpan: function 29 -/

/-! ### spans_Right: function 10 -/

/-! ### api_Span_31: function 31 -/

/-! ### spans_Has: function 12 -/

/-! ### spans_Count: function 14 -/

/-! ### api_Span_41: function 41 -/

/-! ### api_Span_40: function 40 -/

/-! ### spans_change: function 33 -/

/-! ### spans_Add: function 17 -/

/-! ### turnbuckleref05_Same: function 18 -/

/-! ### turnbucklelaw05_alive: function 16 -/

/-! ### turnbuckleref05_Span: function 23 -/

/-! ### turnbuckleref05_rows: function 30 -/

/-! ### turnbuckleref05_Right: function 11 -/

/-! ### turnbuckleref05_Add: function 19 -/

/-! ### spans_Take: function 20 -/

/-! ### api_Span_37: function 37 -/

/-! ### spans_Top: function 26 -/

/-! ### turnbucklelaw05_SpansOwn: function 8 -/
def turnbucklelaw05_SpansOwn.f (l0 : List S30) (a1_0 : Int) (a1_1 : Int) : Option (Bool) := if l0.length * 16 ≤ 140737488355328 then some true else none
theorem turnbucklelaw05_SpansOwn.calls (A0 : Option Addr) (c0 : Nat) (l0 : List S30) (a1_0 : Int) (a1_1 : Int) (r : Bool) (w : World) (hr0 : Kd.C k30 w A0 l0.length l0) (hc0 : l0.length ≤ c0) (h : turnbucklelaw05_SpansOwn.f l0 a1_0 a1_1 = some r) : Calls Try.prog 8 #[.slice A0 l0.length c0, .agg #[.int .i64 a1_0, .int .i64 a1_1]] w fun e w' => e = .returned (.bool r) ∧ Below w.heap.size w w' := by
  unfold turnbucklelaw05_SpansOwn.f at h
  split at h
  case isFalse => cases h
  rename_i hl
  obtain rfl : true = r := Option.some.inj h
  have hlm : (l0.map fun x => (x.f0, x.f1)).length = l0.length := List.length_map _
  have key := Go.Proofs.Ytnfaneojdfjepaa.X.own.c A0 c0 (l0.map fun x => (x.f0, x.f1)) (by rw [hlm]; exact hl) a1_0 a1_1 w (by
    refine Go.Proofs.Ytnfaneojdfjepaa.X.sl_of (by rw [hlm]; exact hc0) (by rw [hlm]; omega) ?_
    intro j x hx
    rw [List.getElem?_map, Option.map_eq_some_iff] at hx
    obtain ⟨y, hy, rfl⟩ := hx
    have hj := (List.getElem?_eq_some_iff.1 hy).1
    obtain ⟨ad, c, e, _, hK, hc⟩ := Kd.C_get hr0 z30 (j : Int) (by omega) (by omega)
    obtain rfl := k30_open hK
    rw [Int.toNat_natCast, List.getD_eq_getElem?_getD, hy] at hc
    exact ⟨ad, e, fun i u hu => hc i u hu⟩)
  rw [hlm] at key
  exact key
/-- The one plain statement of turnbucklelaw05_SpansOwn. -/
def turnbucklelaw05_SpansOwn.Pure : Prop := ∀ (l0 : List (S30)) (a1_0 : Int) (a1_1 : Int), l0.length ≤ maxLen → l0.length * 16 ≤ 140737488351232 → (∀ y ∈ l0, ((Lit.int .i64 y.f0).wf = true) ∧ ((Lit.int .i64 y.f1).wf = true)) → (Lit.int .i64 a1_0).wf = true → (Lit.int .i64 a1_1).wf = true → turnbucklelaw05_SpansOwn.f l0 a1_0 a1_1 = some true

end Go.Proofs.Ytnfaneojdfjepaa.POwn
