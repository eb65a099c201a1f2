import Derived.Test.YtdjeadgebcndeaazPOvrx0
namespace Go.Proofs.Ytdjeadgebcndeaa.POvr
open Go.RowKit Go.Proofs.YtdjeadgebcndeaaW.PrintWords Go.Proofs.YtdjeadgebcndeaaW.PrintLast
set_option linter.unusedVariables false
set_option linter.unusedSimpArgs false
def turnbucklelaw09_ReasmOver.f (a0 : Int) (l1 : List S37) : Option (Bool) := if l1.length < 4611686018427387904 ∧ ∀ y ∈ l1, y.f2.length ≤ 9223372036854775807 then some true else none
theorem turnbucklelaw09_ReasmOver.calls (a0 : Int) (A1 : Option Addr) (c1 : Nat) (l1 : List S37) (r : Bool) (w : World) (hr1 : Kd.C k37 w A1 l1.length l1) (hc1 : l1.length ≤ c1) (h : turnbucklelaw09_ReasmOver.f a0 l1 = some r) : Calls Try.prog 4 #[.int .i64 a0, .slice A1 l1.length c1] w fun e w' => e = .returned (.bool r) ∧ Below w.heap.size w w' := by
 unfold turnbucklelaw09_ReasmOver.f at h
 split at h
 case isFalse => cases h
 rename_i hl
 obtain rfl : true = r := Option.some.inj h
 have hlm : (l1.map fun x => (x.f0, x.f1, x.f2, x.f3)).length = l1.length := List.length_map _
 have hfit : Go.Proofs.Ytdjeadgebcndeaa.X.Fit (l1.map fun x => (x.f0, x.f1, x.f2, x.f3)) := by
  refine ⟨by rw [hlm]; omega, fun a ha => ?_⟩
  obtain ⟨y, hy, rfl⟩ := List.mem_map.1 ha
  exact hl.2 y hy
 obtain ⟨L, hL⟩ : ∃ L, L = l1.map fun x => (x.f0, x.f1, x.f2, x.f3) := ⟨_, rfl⟩
 rw [← hL] at hlm hfit
 have hF := Go.Proofs.Ytdjeadgebcndeaa.X.over_true a0 L hfit
 obtain ⟨K, hK⟩ : ∃ K, K = L.length + 6000 := ⟨_, rfl⟩
 rw [← hK] at hF
 refine Go.Proofs.Ytdjeadgebcndeaa.X.law09_ReasmOver.c K a0 A1 l1.length c1 L true hF hlm.symm w ?_
 refine Go.Proofs.Ytdjeadgebcndeaa.X.slr_of (by rw [hlm]; exact hc1) (by rw [hlm]; omega) ?_
 subst hL
 intro j x hx
 rw [List.getElem?_map, Option.map_eq_some_iff] at hx
 obtain ⟨y, hy, rfl⟩ := hx
 have hj := (List.getElem?_eq_some_iff.1 hy).1
 have hym : y ∈ l1 := List.mem_of_getElem? hy
 obtain ⟨ad, c, e, _, hK, hc⟩ := Kd.C_get hr1 z37 (j : Int) (by omega) (by omega)
 obtain ⟨A2, c2, rfl, l2, g2⟩ := k37_open hK
 have ey : l1.getD ((j : Int)).toNat z37 = y := by rw [Int.toNat_natCast, List.getD_eq_getElem?_getD, hy]; rfl
 rw [ey] at hc l2 g2
 rw [Int.toNat_natCast] at hc
 refine ⟨ad, _, e, ⟨A2, _, c2, rfl, rfl, ?_⟩, fun i u hu => hc i u hu⟩
 refine Go.Proofs.Ytdjeadgebcndeaa.X.slf_of l2 (hl.2 y hym) ?_
 intro i z hz
 have hi := (List.getElem?_eq_some_iff.1 hz).1
 obtain ⟨ad2, c', e2, _, hK2, hc2⟩ := Kd.C_get g2 (0 : Int) (i : Int) (by omega) (by simpa using hi)
 have ez : y.f2.getD ((i : Int)).toNat 0 = z := by rw [Int.toNat_natCast, List.getD_eq_getElem?_getD, hz]; rfl
 rw [ez] at hK2
 obtain rfl : c' = [.int .u8 z] := hK2
 rw [Int.toNat_natCast] at hc2
 exact ⟨ad2, e2, fun t u hu => hc2 t u hu⟩
def turnbucklelaw09_ReasmOver.Pure : Prop := ∀ (a0 : Int) (l1 : List (S37)), (Lit.int .i64 a0).wf = true → l1.length ≤ maxLen → l1.length * 48 ≤ 140737488351232 → (∀ y ∈ l1, ((Lit.int .u8 y.f0).wf = true) ∧ ((Lit.int .i64 y.f1).wf = true) ∧ (y.f2.length ≤ maxLen ∧ ∀ z ∈ y.f2, (Lit.int .u8 z).wf = true) ∧ (True)) → turnbucklelaw09_ReasmOver.f a0 l1 = some true
end Go.Proofs.Ytdjeadgebcndeaa.POvr
