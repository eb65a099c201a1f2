import Derived.Test.YtpdchohbmmfemaazPOwnx0
namespace Go.Proofs.Ytpdchohbmmfemaa.POwn
open Go.RowKit Go.Proofs.YtpdchohbmmfemaaW.PrintWords Go.Proofs.YtpdchohbmmfemaaW.PrintLast
set_option linter.unusedVariables false
set_option linter.unusedSimpArgs false
def turnbucklelaw04_FramesOwn.f (l0 : List Int) : Option (Bool) := if (l0.length < 4611686018427387904 ∧ ∀ b ∈ l0, 0 ≤ b ∧ b ≤ 255) then some true else none
theorem turnbucklelaw04_FramesOwn.calls (A0 : Option Addr) (c0 : Nat) (l0 : List Int) (r : Bool) (w : World) (hr0 : (Kd.int .u8).C w A0 l0.length l0) (hc0 : l0.length ≤ c0) (h : turnbucklelaw04_FramesOwn.f l0 = some r) : Calls Try.prog 7 #[.slice A0 l0.length c0] w fun e w' => e = .returned (.bool r) ∧ Below w.heap.size w w' := by
 unfold turnbucklelaw04_FramesOwn.f at h
 split at h
 case isFalse => cases h
 rename_i hl
 have hl0 := hl
 obtain rfl : true = r := Option.some.inj h
 obtain ⟨K, hF⟩ := Go.Proofs.Ytpdchohbmmfemaa.X.own_true l0 hl0.2 (by omega)
 refine Go.Proofs.Ytpdchohbmmfemaa.X.law04_FramesOwn.c K A0 l0.length c0 l0 true hF rfl w ?_
 ·refine Go.Proofs.Ytpdchohbmmfemaa.X.slf_of hc0 (by omega) ?_
  intro i z hz
  have hi := (List.getElem?_eq_some_iff.1 hz).1
  obtain ⟨ad2, c', e2, _, hK2, hc2⟩ := Kd.C_get hr0 (0 : Int) (i : Int) (by omega) (by simpa using hi)
  have ez : l0.getD ((i : Int)).toNat 0 = z := by rw [Int.toNat_natCast, List.getD_eq_getElem?_getD, hz]; rfl
  rw [ez] at hK2
  obtain rfl : c' = [.int .u8 z] := hK2
  rw [Int.toNat_natCast] at hc2
  exact ⟨ad2, e2, fun t u hu => hc2 t u hu⟩
def turnbucklelaw04_FramesOwn.Pure : Prop := ∀ (l0 : List Int), l0.length ≤ maxLen → l0.length * 1 ≤ 140737488351232 → (∀ y ∈ l0, (Lit.int .u8 y).wf = true) → turnbucklelaw04_FramesOwn.f l0 = some true
end Go.Proofs.Ytpdchohbmmfemaa.POwn
