import Derived.Test.YtpdchohbmmfemaazPWrix0
namespace Go.Proofs.Ytpdchohbmmfemaa.PWri
open Go.RowKit Go.Proofs.YtpdchohbmmfemaaW.PrintWords Go.Proofs.YtpdchohbmmfemaaW.PrintLast
set_option linter.unusedVariables false
set_option linter.unusedSimpArgs false
def turnbucklelaw04_FramesWrites.f (l0 : List S36) (l1 : List S36) : Option (Bool) := if (l0.length < 4611686018427387904 ∧ ∀ y ∈ l0, (y.f6.length < 9223372036854775808 ∧ ∀ b ∈ y.f6, 0 ≤ b ∧ b ≤ 255) ∧ y.f7.length < 9223372036854775808) ∧ (l1.length < 4611686018427387904 ∧ ∀ y ∈ l1, (y.f6.length < 9223372036854775808 ∧ ∀ b ∈ y.f6, 0 ≤ b ∧ b ≤ 255) ∧ y.f7.length < 9223372036854775808) then some true else none
theorem turnbucklelaw04_FramesWrites.calls (A0 : Option Addr) (c0 : Nat) (l0 : List S36) (A1 : Option Addr) (c1 : Nat) (l1 : List S36) (r : Bool) (w : World) (hr0 : Kd.C k36 w A0 l0.length l0) (hc0 : l0.length ≤ c0) (hr1 : Kd.C k36 w A1 l1.length l1) (hc1 : l1.length ≤ c1) (h : turnbucklelaw04_FramesWrites.f l0 l1 = some r) : Calls Try.prog 8 #[.slice A0 l0.length c0, .slice A1 l1.length c1] w fun e w' => e = .returned (.bool r) ∧ Below w.heap.size w w' := by
 unfold turnbucklelaw04_FramesWrites.f at h
 split at h
 case isFalse => cases h
 rename_i hl
 obtain ⟨hl0, hl1⟩ := hl
 obtain rfl : true = r := Option.some.inj h
 have hlm0 : (l0.map (fun y => (y.f0, y.f1, y.f2, y.f3, y.f4, y.f5, y.f6, y.f7.map fun v => (v.f0, v.f1)))).length = l0.length := List.length_map _
 obtain ⟨L0, hL0⟩ : ∃ L, L = l0.map (fun y => (y.f0, y.f1, y.f2, y.f3, y.f4, y.f5, y.f6, y.f7.map fun v => (v.f0, v.f1))) := ⟨_, rfl⟩
 rw [← hL0] at hlm0
 have b0 : Go.Proofs.Ytpdchohbmmfemaa.X.Bys L0 := fun x hx => by
  obtain ⟨y, hy, rfl⟩ := List.mem_map.1 (hL0 ▸ hx)
  exact (hl0.2 y hy).1.2
 have f0 : Go.Proofs.Ytpdchohbmmfemaa.X.FitsQ L0 := by
  refine ⟨by rw [hlm0]; omega, fun x hx => ?_⟩
  obtain ⟨y, hy, rfl⟩ := List.mem_map.1 (hL0 ▸ hx)
  have := hl0.2 y hy
  exact ⟨by simp only [List.length_map]; omega, by simp only; omega⟩
 have hlm1 : (l1.map (fun y => (y.f0, y.f1, y.f2, y.f3, y.f4, y.f5, y.f6, y.f7.map fun v => (v.f0, v.f1)))).length = l1.length := List.length_map _
 obtain ⟨L1, hL1⟩ : ∃ L, L = l1.map (fun y => (y.f0, y.f1, y.f2, y.f3, y.f4, y.f5, y.f6, y.f7.map fun v => (v.f0, v.f1))) := ⟨_, rfl⟩
 rw [← hL1] at hlm1
 have b1 : Go.Proofs.Ytpdchohbmmfemaa.X.Bys L1 := fun x hx => by
  obtain ⟨y, hy, rfl⟩ := List.mem_map.1 (hL1 ▸ hx)
  exact (hl1.2 y hy).1.2
 have f1 : Go.Proofs.Ytpdchohbmmfemaa.X.FitsQ L1 := by
  refine ⟨by rw [hlm1]; omega, fun x hx => ?_⟩
  obtain ⟨y, hy, rfl⟩ := List.mem_map.1 (hL1 ▸ hx)
  have := hl1.2 y hy
  exact ⟨by simp only [List.length_map]; omega, by simp only; omega⟩
 obtain ⟨K, hF⟩ := Go.Proofs.Ytpdchohbmmfemaa.X.writes_true L0 f0 b0 L1 f1 b1
 refine Go.Proofs.Ytpdchohbmmfemaa.X.law04_FramesWrites.c K A0 l0.length c0 L0 A1 l1.length c1 L1 true hF hlm0.symm hlm1.symm w ?_ ?_
 ·subst hL0
  refine Go.Proofs.Ytpdchohbmmfemaa.X.slr_of (by rw [List.length_map]; exact hc0) (by rw [List.length_map]; omega) ?_
  intro j x hx
  rw [List.getElem?_map, Option.map_eq_some_iff] at hx
  obtain ⟨y, hy, rfl⟩ := hx
  have hj := (List.getElem?_eq_some_iff.1 hy).1
  have hym : y ∈ l0 := List.mem_of_getElem? hy
  have hb := hl0.2 y hym
  obtain ⟨ad, c, e, _, hK, hc⟩ := Kd.C_get hr0 z36 (j : Int) (by omega) (by omega)
  obtain ⟨A6, c6, A7, c7, rfl, l6, g6, l7, g7⟩ := k36_open hK
  have ey : l0.getD ((j : Int)).toNat z36 = y := by rw [Int.toNat_natCast, List.getD_eq_getElem?_getD, hy]; rfl
  rw [ey] at hc l6 g6 l7 g7
  rw [Int.toNat_natCast] at hc
  have hlm7 : (y.f7.map fun v => (v.f0, v.f1)).length = y.f7.length := List.length_map _
  have h6 : y.f6.length ≤ 9223372036854775807 := by omega
  have h7 : (y.f7.map fun v => (v.f0, v.f1)).length ≤ 9223372036854775807 := by rw [hlm7]; omega
  refine ⟨ad, _, e, ⟨A6, y.f6.length, c6, A7, y.f7.length, c7, rfl, rfl, ?_, hlm7.symm, ?_⟩, fun i u hu => hc i u hu⟩
  ·refine Go.Proofs.Ytpdchohbmmfemaa.X.slf_of l6 h6 ?_
   intro i z hz
   have hi := (List.getElem?_eq_some_iff.1 hz).1
   obtain ⟨ad2, c', e2, _, hK2, hc2⟩ := Kd.C_get g6 (0 : Int) (i : Int) (by omega) (by simpa using hi)
   have ez : y.f6.getD ((i : Int)).toNat 0 = z := by rw [Int.toNat_natCast, List.getD_eq_getElem?_getD, hz]; rfl
   rw [ez] at hK2
   obtain rfl : c' = [.int .u8 z] := hK2
   rw [Int.toNat_natCast] at hc2
   exact ⟨ad2, e2, fun t u hu => hc2 t u hu⟩
  ·refine Go.Proofs.Ytpdchohbmmfemaa.X.slf_of (by rw [hlm7]; exact l7) h7 ?_
   intro i z hz
   rw [List.getElem?_map, Option.map_eq_some_iff] at hz
   obtain ⟨v, hv, rfl⟩ := hz
   have hi := (List.getElem?_eq_some_iff.1 hv).1
   obtain ⟨ad2, c', e2, _, hK2, hc2⟩ := Kd.C_get g7 z42 (i : Int) (by omega) (by simpa using hi)
   have ez : y.f7.getD ((i : Int)).toNat z42 = v := by rw [Int.toNat_natCast, List.getD_eq_getElem?_getD, hv]; rfl
   obtain rfl := k42_open hK2
   rw [ez] at hc2
   rw [Int.toNat_natCast] at hc2
   exact ⟨ad2, e2, fun t u hu => hc2 t u hu⟩
 ·subst hL1
  refine Go.Proofs.Ytpdchohbmmfemaa.X.slr_of (by rw [List.length_map]; exact hc1) (by rw [List.length_map]; omega) ?_
  intro j x hx
  rw [List.getElem?_map, Option.map_eq_some_iff] at hx
  obtain ⟨y, hy, rfl⟩ := hx
  have hj := (List.getElem?_eq_some_iff.1 hy).1
  have hym : y ∈ l1 := List.mem_of_getElem? hy
  have hb := hl1.2 y hym
  obtain ⟨ad, c, e, _, hK, hc⟩ := Kd.C_get hr1 z36 (j : Int) (by omega) (by omega)
  obtain ⟨A6, c6, A7, c7, rfl, l6, g6, l7, g7⟩ := k36_open hK
  have ey : l1.getD ((j : Int)).toNat z36 = y := by rw [Int.toNat_natCast, List.getD_eq_getElem?_getD, hy]; rfl
  rw [ey] at hc l6 g6 l7 g7
  rw [Int.toNat_natCast] at hc
  have hlm7 : (y.f7.map fun v => (v.f0, v.f1)).length = y.f7.length := List.length_map _
  have h6 : y.f6.length ≤ 9223372036854775807 := by omega
  have h7 : (y.f7.map fun v => (v.f0, v.f1)).length ≤ 9223372036854775807 := by rw [hlm7]; omega
  refine ⟨ad, _, e, ⟨A6, y.f6.length, c6, A7, y.f7.length, c7, rfl, rfl, ?_, hlm7.symm, ?_⟩, fun i u hu => hc i u hu⟩
  ·refine Go.Proofs.Ytpdchohbmmfemaa.X.slf_of l6 h6 ?_
   intro i z hz
   have hi := (List.getElem?_eq_some_iff.1 hz).1
   obtain ⟨ad2, c', e2, _, hK2, hc2⟩ := Kd.C_get g6 (0 : Int) (i : Int) (by omega) (by simpa using hi)
   have ez : y.f6.getD ((i : Int)).toNat 0 = z := by rw [Int.toNat_natCast, List.getD_eq_getElem?_getD, hz]; rfl
   rw [ez] at hK2
   obtain rfl : c' = [.int .u8 z] := hK2
   rw [Int.toNat_natCast] at hc2
   exact ⟨ad2, e2, fun t u hu => hc2 t u hu⟩
  ·refine Go.Proofs.Ytpdchohbmmfemaa.X.slf_of (by rw [hlm7]; exact l7) h7 ?_
   intro i z hz
   rw [List.getElem?_map, Option.map_eq_some_iff] at hz
   obtain ⟨v, hv, rfl⟩ := hz
   have hi := (List.getElem?_eq_some_iff.1 hv).1
   obtain ⟨ad2, c', e2, _, hK2, hc2⟩ := Kd.C_get g7 z42 (i : Int) (by omega) (by simpa using hi)
   have ez : y.f7.getD ((i : Int)).toNat z42 = v := by rw [Int.toNat_natCast, List.getD_eq_getElem?_getD, hv]; rfl
   obtain rfl := k42_open hK2
   rw [ez] at hc2
   rw [Int.toNat_natCast] at hc2
   exact ⟨ad2, e2, fun t u hu => hc2 t u hu⟩
def turnbucklelaw04_FramesWrites.Pure : Prop := ∀ (l0 : List (S36)) (l1 : List (S36)), l0.length ≤ maxLen → l0.length * 96 ≤ 140737488351232 → (∀ y ∈ l0, ((Lit.int .i64 y.f0).wf = true) ∧ ((Lit.int .i64 y.f1).wf = true) ∧ ((Lit.int .i64 y.f2).wf = true) ∧ ((Lit.int .i64 y.f3).wf = true) ∧ ((Lit.int .i64 y.f4).wf = true) ∧ (True) ∧ (y.f6.length ≤ maxLen ∧ ∀ z ∈ y.f6, (Lit.int .u8 z).wf = true) ∧ (y.f7.length ≤ maxLen ∧ ∀ z ∈ y.f7, ((Lit.int .i64 z.f0).wf = true) ∧ ((Lit.int .i64 z.f1).wf = true))) → l1.length ≤ maxLen → l1.length * 96 ≤ 140737488351232 → (∀ y ∈ l1, ((Lit.int .i64 y.f0).wf = true) ∧ ((Lit.int .i64 y.f1).wf = true) ∧ ((Lit.int .i64 y.f2).wf = true) ∧ ((Lit.int .i64 y.f3).wf = true) ∧ ((Lit.int .i64 y.f4).wf = true) ∧ (True) ∧ (y.f6.length ≤ maxLen ∧ ∀ z ∈ y.f6, (Lit.int .u8 z).wf = true) ∧ (y.f7.length ≤ maxLen ∧ ∀ z ∈ y.f7, ((Lit.int .i64 z.f0).wf = true) ∧ ((Lit.int .i64 z.f1).wf = true))) → turnbucklelaw04_FramesWrites.f l0 l1 = some true
end Go.Proofs.Ytpdchohbmmfemaa.PWri
