import Derived.Test.YtpdchohbmmfemaazPFirx0
namespace Go.Proofs.Ytpdchohbmmfemaa.PFir
open Go.RowKit Go.Proofs.YtpdchohbmmfemaaW.PrintWords Go.Proofs.YtpdchohbmmfemaaW.PrintLast
set_option linter.unusedVariables false
set_option linter.unusedSimpArgs false
def turnbucklelaw04_FramesFirst.f (l0 : List Int) (l1 : List Int) : Option (Bool) := if (l0.length < 4611686018427387904 ∧ ∀ b ∈ l0, 0 ≤ b ∧ b ≤ 255) ∧ (l1.length < 4611686018427387904 ∧ ∀ b ∈ l1, 0 ≤ b ∧ b ≤ 255) then some true else none
theorem turnbucklelaw04_FramesFirst.calls (A0 : Option Addr) (c0 : Nat) (l0 : List Int) (A1 : Option Addr) (c1 : Nat) (l1 : List Int) (r : Bool) (w : World) (hr0 : (Kd.int .u8).C w A0 l0.length l0) (hc0 : l0.length ≤ c0) (hr1 : (Kd.int .u8).C w A1 l1.length l1) (hc1 : l1.length ≤ c1) (h : turnbucklelaw04_FramesFirst.f l0 l1 = some r) : Calls Try.prog 6 #[.slice A0 l0.length c0, .slice A1 l1.length c1] w fun e w' => e = .returned (.bool r) ∧ Below w.heap.size w w' := by
 unfold turnbucklelaw04_FramesFirst.f at h
 split at h
 case isFalse => cases h
 rename_i hl
 obtain ⟨hl0, hl1⟩ := hl
 obtain rfl : true = r := Option.some.inj h
 obtain ⟨K, hF⟩ := Go.Proofs.Ytpdchohbmmfemaa.X.first_true l0 hl0.2 (by omega) l1 hl1.2 (by omega)
 refine Go.Proofs.Ytpdchohbmmfemaa.X.law04_FramesFirst.c K A0 l0.length c0 l0 A1 l1.length c1 l1 true hF rfl rfl w ?_ ?_
 ·refine Go.Proofs.Ytpdchohbmmfemaa.X.slf_of hc0 (by omega) ?_
  intro i z hz
  have hi := (List.getElem?_eq_some_iff.1 hz).1
  obtain ⟨ad2, c', e2, _, hK2, hc2⟩ := Kd.C_get hr0 (0 : Int) (i : Int) (by omega) (by simpa using hi)
  have ez : l0.getD ((i : Int)).toNat 0 = z := by rw [Int.toNat_natCast, List.getD_eq_getElem?_getD, hz]; rfl
  rw [ez] at hK2
  obtain rfl : c' = [.int .u8 z] := hK2
  rw [Int.toNat_natCast] at hc2
  exact ⟨ad2, e2, fun t u hu => hc2 t u hu⟩
 ·refine Go.Proofs.Ytpdchohbmmfemaa.X.slf_of hc1 (by omega) ?_
  intro i z hz
  have hi := (List.getElem?_eq_some_iff.1 hz).1
  obtain ⟨ad2, c', e2, _, hK2, hc2⟩ := Kd.C_get hr1 (0 : Int) (i : Int) (by omega) (by simpa using hi)
  have ez : l1.getD ((i : Int)).toNat 0 = z := by rw [Int.toNat_natCast, List.getD_eq_getElem?_getD, hz]; rfl
  rw [ez] at hK2
  obtain rfl : c' = [.int .u8 z] := hK2
  rw [Int.toNat_natCast] at hc2
  exact ⟨ad2, e2, fun t u hu => hc2 t u hu⟩
def turnbucklelaw04_FramesFirst.Pure : Prop := ∀ (l0 : List Int) (l1 : List Int), l0.length ≤ maxLen → l0.length * 1 ≤ 140737488351232 → (∀ y ∈ l0, (Lit.int .u8 y).wf = true) → l1.length ≤ maxLen → l1.length * 1 ≤ 140737488351232 → (∀ y ∈ l1, (Lit.int .u8 y).wf = true) → turnbucklelaw04_FramesFirst.f l0 l1 = some true
end Go.Proofs.Ytpdchohbmmfemaa.PFir
