import Derived.Test.YtkchgcefmnbebaazPPlyx0
namespace Go.Proofs.Ytkchgcefmnbebaa.PPly
open Go.RowKit Go.Proofs.YtkchgcefmnbebaaW.PrintWords Go.Proofs.YtkchgcefmnbebaaW.PrintLast
set_option linter.unusedVariables false
set_option linter.unusedSimpArgs false
def turnbucklelaw08_SentPlays.f (l0 : List S32) : Option (Bool) := if (l0.length < 4611686018427387904 ∧ ∀ y ∈ l0, y.f5.length < 9223372036854775808) then some true else none
theorem turnbucklelaw08_SentPlays.calls (A0 : Option Addr) (c0 : Nat) (l0 : List S32) (r : Bool) (w : World) (hr0 : Kd.C k32 w A0 l0.length l0) (hc0 : l0.length ≤ c0) (h : turnbucklelaw08_SentPlays.f l0 = some r) : Calls Try.prog 3 #[.slice A0 l0.length c0] w fun e w' => e = .returned (.bool r) ∧ Below w.heap.size w w' := by
 unfold turnbucklelaw08_SentPlays.f at h
 split at h
 case isFalse => cases h
 rename_i hl0
 obtain rfl : true = r := Option.some.inj h
 have hlm0 : (l0.map (fun y => (y.f0, y.f1, y.f2, y.f3, y.f4, y.f5.map fun v => (v.f0, v.f1)))).length = l0.length := List.length_map _
 have key := Go.Proofs.Ytkchgcefmnbebaa.X.law_plays A0 c0 (l0.map (fun y => (y.f0, y.f1, y.f2, y.f3, y.f4, y.f5.map fun v => (v.f0, v.f1)))) w (by
  refine Go.Proofs.Ytkchgcefmnbebaa.X.slr_of (by rw [List.length_map]; exact hc0) (by rw [List.length_map]; omega) ?_
  intro j x hx
  rw [List.getElem?_map, Option.map_eq_some_iff] at hx
  obtain ⟨y, hy, rfl⟩ := hx
  have hj := (List.getElem?_eq_some_iff.1 hy).1
  have hym : y ∈ l0 := List.mem_of_getElem? hy
  have hb := hl0.2 y hym
  obtain ⟨ad, c, e, _, hK, hc⟩ := Kd.C_get hr0 z32 (j : Int) (by omega) (by omega)
  obtain ⟨A5, c5, rfl, l5, g5⟩ := k32_open hK
  have ey : l0.getD ((j : Int)).toNat z32 = y := by rw [Int.toNat_natCast, List.getD_eq_getElem?_getD, hy]; rfl
  rw [ey] at hc l5 g5
  rw [Int.toNat_natCast] at hc
  have hlm5 : (y.f5.map fun v => (v.f0, v.f1)).length = y.f5.length := List.length_map _
  have h7 : (y.f5.map fun v => (v.f0, v.f1)).length ≤ 9223372036854775807 := by rw [hlm5]; omega
  refine ⟨ad, _, e, ⟨A5, y.f5.length, c5, rfl, hlm5.symm, ?_⟩, fun i u hu => hc i u hu⟩
  refine Go.Proofs.Ytkchgcefmnbebaa.X.slf_of (by rw [hlm5]; exact l5) h7 ?_
  intro i z hz
  rw [List.getElem?_map, Option.map_eq_some_iff] at hz
  obtain ⟨v, hv, rfl⟩ := hz
  have hi := (List.getElem?_eq_some_iff.1 hv).1
  obtain ⟨ad2, c', e2, _, hK2, hc2⟩ := Kd.C_get g5 z63 (i : Int) (by omega) (by simpa using hi)
  have ez : y.f5.getD ((i : Int)).toNat z63 = v := by rw [Int.toNat_natCast, List.getD_eq_getElem?_getD, hv]; rfl
  obtain rfl := k63_open hK2
  rw [ez] at hc2
  rw [Int.toNat_natCast] at hc2
  exact ⟨ad2, e2, fun t u hu => hc2 t u hu⟩)
 rw [hlm0] at key
 exact key
def turnbucklelaw08_SentPlays.Pure : Prop := ∀ (l0 : List (S32)), l0.length ≤ maxLen → l0.length * 64 ≤ 140737488351232 → (∀ y ∈ l0, ((Lit.int .u8 y.f0).wf = true) ∧ ((Lit.int .i64 y.f1).wf = true) ∧ ((Lit.int .i64 y.f2).wf = true) ∧ ((Lit.int .i64 y.f3).wf = true) ∧ ((Lit.int .i64 y.f4).wf = true) ∧ (y.f5.length ≤ maxLen ∧ ∀ z ∈ y.f5, ((Lit.int .i64 z.f0).wf = true) ∧ ((Lit.int .i64 z.f1).wf = true))) → turnbucklelaw08_SentPlays.f l0 = some true
end Go.Proofs.Ytkchgcefmnbebaa.PPly
