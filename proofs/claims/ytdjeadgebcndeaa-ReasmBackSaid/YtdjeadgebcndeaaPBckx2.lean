-- written by wip/tools/mp.py, a program of this session, over the printer of the kit, out of the translation
import Derived.Test.YtdjeadgebcndeaaPBckx0
namespace Go.Proofs.Ytdjeadgebcndeaa.PBck
open Go.RowKit Go.Proofs.YtdjeadgebcndeaaW.PrintWords Go.Proofs.YtdjeadgebcndeaaW.PrintLast
set_option linter.unusedVariables false
set_option linter.unusedSimpArgs false

/-! ### turnbucklelaw09_ReasmBack: function 3 -/
def turnbucklelaw09_ReasmBack.f (l0 : List Int) (l1 : List S30) (l2 : List Int) : Option (Bool) := if l0.length ≤ 9223372036854775807 ∧ l1.length < 4611686018427387904 ∧ l2.length ≤ 9223372036854775807 ∧ ∀ y ∈ l1, 0 ≤ y.f0 ∧ y.f0 < 256 ∧ 0 ≤ y.f1 ∧ y.f1 < 256 then some true else none
theorem turnbucklelaw09_ReasmBack.calls (A0 : Option Addr) (c0 : Nat) (l0 : List Int) (A1 : Option Addr) (c1 : Nat) (l1 : List S30) (A2 : Option Addr) (c2 : Nat) (l2 : List Int) (r : Bool) (w : World) (hr0 : (Kd.int .u8).C w A0 l0.length l0) (hc0 : l0.length ≤ c0) (hr1 : Kd.C k30 w A1 l1.length l1) (hc1 : l1.length ≤ c1) (hr2 : (Kd.int .u8).C w A2 l2.length l2) (hc2 : l2.length ≤ c2) (h : turnbucklelaw09_ReasmBack.f l0 l1 l2 = some r) : Calls Try.prog 3 #[.slice A0 l0.length c0, .slice A1 l1.length c1, .slice A2 l2.length c2] w fun e w' => e = .returned (.bool r) ∧ Below w.heap.size w w' := by
  unfold turnbucklelaw09_ReasmBack.f at h
  split at h
  case isFalse => cases h
  rename_i hl
  obtain ⟨hl0, hl1, hl2, hly⟩ := hl
  obtain rfl : true = r := Option.some.inj h
  have hlm : (l1.map fun x => (x.f0, x.f1)).length = l1.length := List.length_map _
  have hfit : Go.Proofs.Ytdjeadgebcndeaa.X.FitB l0 (l1.map fun x => (x.f0, x.f1)) := by
    refine ⟨by rw [hlm]; omega, fun a ha => ?_⟩
    obtain ⟨y, hy, rfl⟩ := List.mem_map.1 ha
    exact hly y hy
  obtain ⟨L, hL⟩ : ∃ L, L = l1.map fun x => (x.f0, x.f1) := ⟨_, rfl⟩
  rw [← hL] at hlm hfit
  have hF := Go.Proofs.Ytdjeadgebcndeaa.X.back_true l0 L l2 hfit
  obtain ⟨K, hK⟩ : ∃ K, K = L.length + 6000 := ⟨_, rfl⟩
  rw [← hK] at hF
  refine Go.Proofs.Ytdjeadgebcndeaa.X.law09_ReasmBack.c K A0 l0.length c0 l0 A1 l1.length c1 L A2 l2.length c2 l2 true hF rfl hlm.symm rfl w ?_ ?_ ?_
  refine Go.Proofs.Ytdjeadgebcndeaa.X.slf_of hc0 (by omega) ?_
  · intro i z hz
    have hi := (List.getElem?_eq_some_iff.1 hz).1
    obtain ⟨ad2, c', e2, _, hK2, hc2⟩ := Kd.C_get hr0 (0 : Int) (i : Int) (by omega) (by omega)
    have ez : l0.getD ((i : Int)).toNat 0 = z := by rw [Int.toNat_natCast, List.getD_eq_getElem?_getD, hz]; rfl
    rw [ez] at hK2
    obtain rfl : c' = [.int .u8 z] := hK2
    rw [Int.toNat_natCast] at hc2
    exact ⟨ad2, e2, fun t u hu => hc2 t u hu⟩
  refine Go.Proofs.Ytdjeadgebcndeaa.X.slf_of (by rw [hlm]; exact hc1) (by rw [hlm]; omega) ?_
  · subst hL
    intro j x hx
    rw [List.getElem?_map, Option.map_eq_some_iff] at hx
    obtain ⟨y, hy, rfl⟩ := hx
    have hj := (List.getElem?_eq_some_iff.1 hy).1
    obtain ⟨ad, c, e, _, hK, hc⟩ := Kd.C_get hr1 z30 (j : Int) (by omega) (by omega)
    obtain rfl := k30_open hK
    have ey : l1.getD ((j : Int)).toNat z30 = y := by rw [Int.toNat_natCast, List.getD_eq_getElem?_getD, hy]; rfl
    rw [ey] at hc
    rw [Int.toNat_natCast] at hc
    exact ⟨ad, e, fun i u hu => hc i u hu⟩
  refine Go.Proofs.Ytdjeadgebcndeaa.X.slf_of hc2 (by omega) ?_
  · intro i z hz
    have hi := (List.getElem?_eq_some_iff.1 hz).1
    obtain ⟨ad2, c', e2, _, hK2, hc2⟩ := Kd.C_get hr2 (0 : Int) (i : Int) (by omega) (by omega)
    have ez : l2.getD ((i : Int)).toNat 0 = z := by rw [Int.toNat_natCast, List.getD_eq_getElem?_getD, hz]; rfl
    rw [ez] at hK2
    obtain rfl : c' = [.int .u8 z] := hK2
    rw [Int.toNat_natCast] at hc2
    exact ⟨ad2, e2, fun t u hu => hc2 t u hu⟩
/-- The one plain statement of turnbucklelaw09_ReasmBack. -/
def turnbucklelaw09_ReasmBack.Pure : Prop := ∀ (l0 : List Int) (l1 : List (S30)) (l2 : List Int), l0.length ≤ maxLen → l0.length * 1 ≤ 140737488351232 → (∀ y ∈ l0, (Lit.int .u8 y).wf = true) → l1.length ≤ maxLen → l1.length * 2 ≤ 140737488351232 → (∀ y ∈ l1, ((Lit.int .u8 y.f0).wf = true) ∧ ((Lit.int .u8 y.f1).wf = true)) → l2.length ≤ maxLen → l2.length * 1 ≤ 140737488351232 → (∀ y ∈ l2, (Lit.int .u8 y).wf = true) → turnbucklelaw09_ReasmBack.f l0 l1 l2 = some true

end Go.Proofs.Ytdjeadgebcndeaa.PBck
