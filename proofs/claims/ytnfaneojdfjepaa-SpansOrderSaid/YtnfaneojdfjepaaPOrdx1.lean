-- written by wip/tools/mp.py, a program of this session, over the printer of the kit, out of the translation
import Derived.Test.YtnfaneojdfjepaaPOrdx0
namespace Go.Proofs.Ytnfaneojdfjepaa.POrd
open Go.RowKit Go.Proofs.YtnfaneojdfjepaaW.PrintWords Go.Proofs.YtnfaneojdfjepaaW.PrintLast Go.Proofs.YtnfaneojdfjepaaW.PrintMore
attribute [local go_sem] max2_int min2_int max_two min_two max_three min_three max_four min_four   -- for this text's walks alone
set_option linter.unusedVariables false
set_option linter.unusedSimpArgs false

/-! ### turnbuckleref05_Span: function 23 -/

/-! ### turnbuckleref05_rows: function 30 -/

/-! ### turnbuckleref05_Right: function 11 -/

/-! ### spans_isSpan: function 29 -/

/-! ### spans_Right: function 10 -/

/-! ### api_Span_31: function 31 -/

/-! ### spans_Has: function 12 -/

/-! ### spans_Count: function 14 -/

/-! ### api_Span_41: function 41 -/

/-! ### api_Span_40: function 40 -/

/-! ### spans_change: function 33 -/

/-! ### spans_Add: function 17 -/

/-! ### turnbuckleref05_Same: function 18 -/

/-! ### turnbucklelaw05_alive: function 16 -/

/-! ### turnbucklelaw05_SpansOrder: function 4 -/
def turnbucklelaw05_SpansOrder.f (l0 : List S30) (a1 : Int) : Option (Bool) := if l0.length < 4611686018427387904 then some true else none
theorem turnbucklelaw05_SpansOrder.calls (A0 : Option Addr) (c0 : Nat) (l0 : List S30) (a1 : Int) (r : Bool) (w : World) (hr0 : Kd.C k30 w A0 l0.length l0) (hc0 : l0.length ≤ c0) (h : turnbucklelaw05_SpansOrder.f l0 a1 = some r) : Calls Try.prog 4 #[.slice A0 l0.length c0, .int .i64 a1] w fun e w' => e = .returned (.bool r) ∧ Below w.heap.size w w' := by
  unfold turnbucklelaw05_SpansOrder.f at h
  split at h
  case isFalse => cases h
  rename_i hl
  obtain rfl : true = r := Option.some.inj h
  have hlm : (l0.map fun x => (x.f0, x.f1)).length = l0.length := List.length_map _
  have key := Go.Proofs.Ytnfaneojdfjepaa.X.order.calls A0 c0 (l0.map fun x => (x.f0, x.f1)) a1 w (by
    refine Go.Proofs.Ytnfaneojdfjepaa.X.sl_of (by rw [hlm]; exact hc0) (by rw [hlm]; omega) ?_
    intro j x hx
    rw [List.getElem?_map, Option.map_eq_some_iff] at hx
    obtain ⟨y, hy, rfl⟩ := hx
    have hj := (List.getElem?_eq_some_iff.1 hy).1
    obtain ⟨ad, c, e, _, hK, hc⟩ := Kd.C_get hr0 z30 (j : Int) (by omega) (by omega)
    obtain rfl := k30_open hK
    rw [Int.toNat_natCast, List.getD_eq_getElem?_getD, hy] at hc
    exact ⟨ad, e, fun i u hu => hc i u hu⟩) (fun t x y h1 h2 h3 h4 h5 => Go.Proofs.Ytnfaneojdfjepaa.X.order_law t x y h1 h2 h3 h4 h5)
  rw [hlm] at key
  exact key
/-- The one plain statement of turnbucklelaw05_SpansOrder. -/
def turnbucklelaw05_SpansOrder.Pure : Prop := ∀ (l0 : List (S30)) (a1 : Int), l0.length ≤ maxLen → l0.length * 16 ≤ 140737488351232 → (∀ y ∈ l0, ((Lit.int .i64 y.f0).wf = true) ∧ ((Lit.int .i64 y.f1).wf = true)) → (Lit.int .i64 a1).wf = true → turnbucklelaw05_SpansOrder.f l0 a1 = some true

end Go.Proofs.Ytnfaneojdfjepaa.POrd
