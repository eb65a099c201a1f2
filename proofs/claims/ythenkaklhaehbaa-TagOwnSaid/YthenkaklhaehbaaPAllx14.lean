-- written by wip/tools/mp.py, a program of this session, over the printer of the kit, out of the translation
import Derived.Test.YthenkaklhaehbaaPAllx0
import Derived.Test.YthenkaklhaehbaaPAllx1
import Derived.Test.YthenkaklhaehbaaPAllx6
import Derived.Test.YthenkaklhaehbaaPAllx13
namespace Go.Proofs.Ythenkaklhaehbaa.PAll
open Go.RowKit Go.Proofs.YthenkaklhaehbaaW.PrintWords Go.Proofs.YthenkaklhaehbaaW.PrintLast Go.Proofs.YthenkaklhaehbaaW.PrintMore
attribute [local go_sem] max2_int min2_int max_two min_two max_three min_three max_four min_four   -- for this text's walks alone
set_option linter.unusedVariables false
set_option linter.unusedSimpArgs false

/-! ### tag_Seal: function 16 -/
def tag_Seal.f (k : Nat) (a0 : Int) (l1 : List Int) : Option (List Int) := (tag_Of.f k a0 l1).bind fun t1 => (slices_Concat_byte_byte.f k [l1, tag_mark.f t1])
theorem tag_Seal.mono : ∀ a0 l1 k, LeO (tag_Seal.f k a0 l1) (tag_Seal.f (k + 1) a0 l1) := by
  intro a0 l1 k
  unfold tag_Seal.f
  exact LeO.bind (tag_Of.mono _ _ _) (fun _ => slices_Concat_byte_byte.mono _ _)
set_option maxHeartbeats 4000000 in
theorem tag_Seal.calls (k : Nat) (a0 : Int) (A1 : Option Addr) (c1 : Nat) (l1 : List Int) (r : List Int) (w : World) (hr1 : Kd.C (Kd.int .u8) w A1 l1.length l1) (hc1 : l1.length ≤ c1) (h : tag_Seal.f k a0 l1 = some r) :
    Calls Try.prog 16 #[.int .u64 a0, .slice A1 l1.length c1] w fun e w' => ∃ v0_ : Value, e = .returned (v0_) ∧ Kd.R (Kd.int .u8) 5 w' w.heap.size (fun _ => True) v0_ r ∧ Below w.heap.size w w' := by
  obtain ⟨t, ht, hr⟩ := Option.bind_eq_some_iff.mp (show ((tag_Of.f k a0 l1).bind fun t1 => (slices_Concat_byte_byte.f k [l1, tag_mark.f t1])) = some r from h)
  have HT := Aside0.mk ht
  have HR := Aside0.mk hr
  have HR1 := Aside0.mk hr1
  have HC1 := Aside0.mk hc1
  clear h ht hr hr1 hc1
  go_enter Try.func16, Try.ntmps16
  go_wp2_with fail
  refine (tag_Of.calls k a0 _ _ l1 t _ ?s1 ?s2 HT.out).mono ?_
  case s1 => exact HR1.out
  case s2 => exact HC1.out
  rintro e w' ⟨rfl, ⟨nd, rfl⟩⟩
  go_wp2_with fail
  refine (tag_mark.calls t _).mono ?_
  rintro e w2 ⟨rfl, hb2⟩
  have HB2 := Aside0.mk hb2
  clear hb2
  simp only [tag_mark.row]
  go_wp2_with fail
  have HBX : Aside0 (∀ o o', Below w.heap.size w ((w2.alloc o).alloc o')) := ⟨fun o o' => below_alloc (below_alloc (below_step (pw_below_drewN (Below.refl _ _) nd) HB2.out) _) _⟩
  refine (slices_Concat_byte_byte.calls k _ _ [l1, tag_mark.f t] r _ ?s3 ?s4 HR.out).mono ?_
  case s3 => exact Go.Proofs.YthenkaklhaehbaaW.Aid.C_two 5 (Kd.int .u8) l1 (tag_mark.f t) rfl rfl (Go.Proofs.YthenkaklhaehbaaW.Aid.heap_new2 _ _ _) (Kd.C_alloc (Kd.C_alloc (Kd.C_below (Kd.C_drewN HR1.out nd) HB2.out) _) _) HC1.out (Kd.C_alloc (Go.Proofs.YthenkaklhaehbaaW.Aid.C_lit .u8 (tag_mark.f t) (by simp [tag_mark.f]) (Go.Proofs.YthenkaklhaehbaaW.Aid.heap_new _ _)) _) (Nat.le_refl 8)
  case s4 => exact Nat.le_refl _
  rintro e w3 ⟨v0, rfl, hro, hb3⟩
  have HO := Aside0.mk (Kd.R_lower hro (below_size (HBX.out _ _)))
  have HB3 := Aside0.mk (below_step (HBX.out _ _) hb3)
  clear hro hb3
  go_wp2
  go_ret
  exact ⟨_, rfl, HO.out, HB3.out⟩

end Go.Proofs.Ythenkaklhaehbaa.PAll
