-- written by wip/tools/mp.py, a program of this session, over the printer of the kit, out of the translation
import Derived.Test.YthenkaklhaehbaaPAllx0
import Derived.Test.YthenkaklhaehbaaPAllx1
namespace Go.Proofs.Ythenkaklhaehbaa.PAll
open Go.RowKit Go.Proofs.YthenkaklhaehbaaW.PrintWords Go.Proofs.YthenkaklhaehbaaW.PrintLast Go.Proofs.YthenkaklhaehbaaW.PrintMore
attribute [local go_sem] max2_int min2_int max_two min_two max_three min_three max_four min_four   -- for this text's walks alone
set_option linter.unusedVariables false
set_option linter.unusedSimpArgs false

/-! ### turnbucklelaw02_alive: function 12 -/
def turnbucklelaw02_alive.f (k : Nat) : Option (Bool) := (tag_Of.f k 0 (([97] : List Int))).bind fun t106 => (some (t106 == 12638187200555641996))
theorem turnbucklelaw02_alive.mono : ∀ k, LeO (turnbucklelaw02_alive.f k) (turnbucklelaw02_alive.f (k + 1)) := by
  intro k
  unfold turnbucklelaw02_alive.f
  exact LeO.bind (tag_Of.mono _ _ _) (fun _ => LeO.refl _)
set_option maxHeartbeats 2000000 in
theorem turnbucklelaw02_alive.calls (k : Nat) (r : Bool) (w : World) (h : turnbucklelaw02_alive.f k = some r) :
    Calls Try.prog 12 #[] w fun e w' => e = .returned (.bool r) ∧ Below w.heap.size w w' := by
  obtain ⟨t, ht, hr⟩ := Option.bind_eq_some_iff.mp (show ((tag_Of.f k 0 (([97] : List Int))).bind fun t106 => (some (t106 == 12638187200555641996))) = some r from h)
  have HT := Aside0.mk ht
  clear h ht
  obtain rfl := Option.some.inj hr
  clear hr
  have kc := fun (w : World) (C : Array Value) (n c : Nat) => Lib.run_convert_bytes_const (P := Try.prog) w 23 5 C n c Try.underlying23 Try.underlying5
  go_enter Try.func12, Try.ntmps12
  go_wp2_with fail
  refine (tag_Of.calls k 0 _ _ [97] t _ ?s1 ?s2 HT.out).mono ?_
  case s1 => exact Go.Proofs.YthenkaklhaehbaaW.Aid.C_lit .u8 [97] (by simp) (Go.Proofs.YthenkaklhaehbaaW.Aid.heap_new _ _)
  case s2 => exact Nat.le_refl _
  rintro e w' ⟨rfl, ⟨nd, rfl⟩⟩
  go_wp2
  go_ret
  exact ⟨rfl, pw_below_drewN (below_alloc (Below.refl _ _) _) _⟩

end Go.Proofs.Ythenkaklhaehbaa.PAll
