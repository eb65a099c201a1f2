-- written by wip/tools/mp.py, a program of this session, over the printer of the kit, out of the translation
import Derived.Test.YtdjeadgebcndeaaPNobx0
namespace Go.Proofs.Ytdjeadgebcndeaa.PNob
open Go.RowKit Go.Proofs.YtdjeadgebcndeaaW.PrintWords Go.Proofs.YtdjeadgebcndeaaW.PrintLast
set_option linter.unusedVariables false
set_option linter.unusedSimpArgs false

/-! ### reasm_New: function 8 -/

/-! ### reasm_Stream_ok: function 21 -/

/-! ### reasm_Stream_Limit: function 18 -/

/-! ### reasm_Stream_last: function 22 -/

/-! ### reasm_Stream_gaps: function 25 -/

/-! ### api_Span_28: function 28 -/

/-! ### api_Span_32: function 32 -/

/-! ### api_Span_31: function 31 -/

/-! ### api_Span_29: function 29 -/

/-! ### api_Span_27: function 27 -/

/-! ### api_Span_30: function 30 -/

/-! ### api_Span_26: function 26 -/

/-! ### reasm_Stream_put: function 23 -/

/-! ### reasm_Stream_Data: function 10 -/

/-! ### reasm_Stream_Ready: function 20 -/

/-! ### slices_Clone_byte_byte: function 24 -/

/-! ### reasm_Stream_Read: function 11 -/

/-! ### reasm_Stream_Over: function 13 -/

/-! ### turnbucklelaw09_alive: function 9 -/

/-! ### reasm_Stream_At: function 14 -/

/-! ### reasm_Stream_Broken: function 15 -/

/-! ### reasm_Stream_End: function 16 -/

/-! ### reasm_Stream_Reset: function 17 -/

/-! ### reasm_Stream_Held: function 19 -/

/-! ### turnbucklelaw09_ReasmNobody: function 7 -/
def turnbucklelaw09_ReasmNobody.f (l0 : List Int) (a1_0 a1_1 : Int) (l1_2 : List Int) (a1_3 : Bool) : Option (Bool) := if l0.length ≤ 9223372036854775807 ∧ l1_2.length ≤ 9223372036854775807 then some true else none
theorem turnbucklelaw09_ReasmNobody.calls (A0 : Option Addr) (c0 : Nat) (l0 : List Int) (a1_0 a1_1 : Int) (A1_2 : Option Addr) (c1_2 : Nat) (l1_2 : List Int) (a1_3 : Bool) (r : Bool) (w : World) (hr0 : (Kd.int .u8).C w A0 l0.length l0) (hc0 : l0.length ≤ c0) (hr1_2 : (Kd.int .u8).C w A1_2 l1_2.length l1_2) (hc1_2 : l1_2.length ≤ c1_2) (h : turnbucklelaw09_ReasmNobody.f l0 a1_0 a1_1 l1_2 a1_3 = some r) : Calls Try.prog 7 #[.slice A0 l0.length c0, .agg #[.int .u8 a1_0, .int .i64 a1_1, .slice A1_2 l1_2.length c1_2, .bool a1_3]] w fun e w' => e = .returned (.bool r) ∧ Below w.heap.size w w' := by
  unfold turnbucklelaw09_ReasmNobody.f at h
  split at h
  case isFalse => cases h
  rename_i hl
  obtain ⟨hl0, hl1⟩ := hl
  obtain rfl : true = r := Option.some.inj h
  have hF := Go.Proofs.Ytdjeadgebcndeaa.X.nobody_true l0 a1_0 a1_1 l1_2 a1_3
  obtain ⟨K, hK⟩ : ∃ K, K = 6000 := ⟨_, rfl⟩
  rw [← hK] at hF
  refine Go.Proofs.Ytdjeadgebcndeaa.X.law09_ReasmNobody.c K A0 l0.length c0 l0 a1_0 a1_1 A1_2 l1_2.length c1_2 l1_2 a1_3 true hF rfl rfl w ?_ ?_
  refine Go.Proofs.Ytdjeadgebcndeaa.X.slf_of hc0 (by omega) ?_
  · intro i z hz
    have hi := (List.getElem?_eq_some_iff.1 hz).1
    obtain ⟨ad2, c', e2, _, hK2, hc2⟩ := Kd.C_get hr0 (0 : Int) (i : Int) (by omega) (by omega)
    have ez : l0.getD ((i : Int)).toNat 0 = z := by rw [Int.toNat_natCast, List.getD_eq_getElem?_getD, hz]; rfl
    rw [ez] at hK2
    obtain rfl : c' = [.int .u8 z] := hK2
    rw [Int.toNat_natCast] at hc2
    exact ⟨ad2, e2, fun t u hu => hc2 t u hu⟩
  refine Go.Proofs.Ytdjeadgebcndeaa.X.slf_of hc1_2 (by omega) ?_
  · intro i z hz
    have hi := (List.getElem?_eq_some_iff.1 hz).1
    obtain ⟨ad2, c', e2, _, hK2, hc2⟩ := Kd.C_get hr1_2 (0 : Int) (i : Int) (by omega) (by omega)
    have ez : l1_2.getD ((i : Int)).toNat 0 = z := by rw [Int.toNat_natCast, List.getD_eq_getElem?_getD, hz]; rfl
    rw [ez] at hK2
    obtain rfl : c' = [.int .u8 z] := hK2
    rw [Int.toNat_natCast] at hc2
    exact ⟨ad2, e2, fun t u hu => hc2 t u hu⟩
/-- The one plain statement of turnbucklelaw09_ReasmNobody. -/
def turnbucklelaw09_ReasmNobody.Pure : Prop := ∀ (l0 : List Int) (a1_0 : Int) (a1_1 : Int) (l1_2 : List Int) (a1_3 : Bool), l0.length ≤ maxLen → l0.length * 1 ≤ 140737488351232 → (∀ y ∈ l0, (Lit.int .u8 y).wf = true) → (Lit.int .u8 a1_0).wf = true → (Lit.int .i64 a1_1).wf = true → l1_2.length ≤ maxLen → (∀ y ∈ l1_2, (Lit.int .u8 y).wf = true) → turnbucklelaw09_ReasmNobody.f l0 a1_0 a1_1 l1_2 a1_3 = some true

end Go.Proofs.Ytdjeadgebcndeaa.PNob
