-- written by wip/tools/mp.py, a program of this session, over the printer of the kit, out of the translation
import Derived.Test.YtpdijecmblgmgaaPBakx0
namespace Go.Proofs.Ytpdijecmblgmgaa.PBak
open Go.RowKit Go.Proofs.YtpdijecmblgmgaaW.PrintWords Go.Proofs.YtpdijecmblgmgaaW.PrintLast Go.Proofs.YtpdijecmblgmgaaW.PrintMore
attribute [local go_sem] max2_int min2_int max_two min_two max_three min_three max_four min_four   -- for this text's walks alone
set_option linter.unusedVariables false
set_option linter.unusedSimpArgs false

/-! ### pint_full: function 15 -/

/-! ### slices_Grow_byte_byte: function 18 -/

/-! ### slices_Concat_byte_byte: function 16 -/

/-! ### pint_Put: function 8 -/

/-! ### pint_Size: function 11 -/

/-! ### turnbuckleref01_Same: function 10 -/

/-! ### pint_Get: function 14 -/

/-! ### turnbucklelaw11_alive: function 13 -/

/-! ### turnbucklelaw11_PintBack: function 4 -/
theorem turnbucklelaw11_PintBack.mf : ∀ l : List Int, l.map (Value.int .u8) = l.flatMap (fun x => [Value.int .u8 x])
  | [] => rfl
  | x :: r => by rw [List.map_cons, List.flatMap_cons, turnbucklelaw11_PintBack.mf r]; rfl
theorem turnbucklelaw11_PintBack.sl {w : World} {A : Option Addr} {c : Nat} {l : List Int} (h : Kd.C (Kd.int .u8) w A l.length l) (hc : l.length ≤ c) : Go.Proofs.YtpdijecmblgmgaaW.Rx.SlR Go.Proofs.Ytpdijecmblgmgaa.X.R22.row (fun _ => False) w A c l := by
  refine ⟨⟨l.map (Value.int .u8), fun i u hu => ?_, Go.Proofs.YtpdijecmblgmgaaW.Rx.reps_flat.2 (turnbucklelaw11_PintBack.mf l)⟩, hc, h.2.1⟩
  rw [List.getElem?_map, Option.map_eq_some_iff] at hu
  obtain ⟨x, hx, rfl⟩ := hu
  have hi := (List.getElem?_eq_some_iff.1 hx).1
  obtain ⟨ad, e, hcell⟩ := Kd.at_int h (i : Int) (by omega) (by omega)
  refine ⟨ad, e, ?_, fun h => h⟩
  rw [Int.toNat_natCast] at hcell
  rw [hcell]
  unfold rd
  rw [Int.toNat_natCast, List.getD_eq_getElem?_getD, hx]; rfl
def turnbucklelaw11_PintBack.f (l0 : List Int) (l1 : List Int) (a2_0 : Int) (a2_1 : Int) (a2_2 : Int) : Option (Bool) := if l0.length ≤ 1000000000 ∧ l1.length ≤ 1000000000 then some true else none
theorem turnbucklelaw11_PintBack.calls (A0 : Option Addr) (c0 : Nat) (l0 : List Int) (A1 : Option Addr) (c1 : Nat) (l1 : List Int) (a2_0 : Int) (a2_1 : Int) (a2_2 : Int) (r : Bool) (w : World) (hr0 : Kd.C (Kd.int .u8) w A0 l0.length l0) (hc0 : l0.length ≤ c0) (hr1 : Kd.C (Kd.int .u8) w A1 l1.length l1) (hc1 : l1.length ≤ c1) (h : turnbucklelaw11_PintBack.f l0 l1 a2_0 a2_1 a2_2 = some r) : Calls Try.prog 4 #[.slice A0 l0.length c0, .slice A1 l1.length c1, .agg #[.int .i64 a2_0, .int .i64 a2_1, .int .i64 a2_2]] w fun e w' => e = .returned (.bool r) ∧ Below w.heap.size w w' := by
  unfold turnbucklelaw11_PintBack.f at h
  split at h
  case isFalse => cases h
  rename_i hl
  obtain rfl : true = r := Option.some.inj h
  exact Go.Proofs.Ytpdijecmblgmgaa.X.law11_PintBack.c 100 A0 l0.length c0 l0 A1 l1.length c1 l1 a2_0 a2_1 a2_2 true (Go.Proofs.Ytpdijecmblgmgaa.X.back_true l0 l1 a2_0 a2_1 a2_2 hl.1 hl.2 (by decide)) rfl rfl w (turnbucklelaw11_PintBack.sl hr0 hc0) (turnbucklelaw11_PintBack.sl hr1 hc1)
/-- The one plain statement of turnbucklelaw11_PintBack. -/
def turnbucklelaw11_PintBack.Pure : Prop := ∀ (l0 : List Int) (l1 : List Int) (a2_0 : Int) (a2_1 : Int) (a2_2 : Int), l0.length ≤ maxLen → l0.length * 1 ≤ 140737488351232 → (∀ y ∈ l0, (Lit.int .u8 y).wf = true) → l1.length ≤ maxLen → l1.length * 1 ≤ 140737488351232 → (∀ y ∈ l1, (Lit.int .u8 y).wf = true) → (Lit.int .i64 a2_0).wf = true → (Lit.int .i64 a2_1).wf = true → (Lit.int .i64 a2_2).wf = true → (l0.length + 1) + (l1.length + 1) ≤ 1048576 → turnbucklelaw11_PintBack.f l0 l1 a2_0 a2_1 a2_2 = some true

end Go.Proofs.Ytpdijecmblgmgaa.PBak
