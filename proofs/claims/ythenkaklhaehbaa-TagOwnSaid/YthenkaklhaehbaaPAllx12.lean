-- written by wip/tools/mp.py, a program of this session, over the printer of the kit, out of the translation
import Derived.Test.YthenkaklhaehbaaPAllx0
namespace Go.Proofs.Ythenkaklhaehbaa.PAll
open Go.RowKit Go.Proofs.YthenkaklhaehbaaW.PrintWords Go.Proofs.YthenkaklhaehbaaW.PrintLast Go.Proofs.YthenkaklhaehbaaW.PrintMore
attribute [local go_sem] max2_int min2_int max_two min_two max_three min_three max_four min_four   -- for this text's walks alone
set_option linter.unusedVariables false
set_option linter.unusedSimpArgs false

/-! ### slices_Grow_byte_byte: function 21 -/
def slices_Grow_byte_byte.f (a1 : Int) : Option (List Int) := if 0 ≤ a1 then (if a1 ≤ 140737488355328 then some [] else none) else none
set_option maxHeartbeats 2000000 in
theorem slices_Grow_byte_byte.calls (a1 : Int) (r : List Int) (w : World) (h : slices_Grow_byte_byte.f a1 = some r) :
    Calls Try.prog 21 #[.slice none 0 0, .int .i64 a1] w fun e w' => ∃ v0_ : Value, e = .returned v0_ ∧ Kd.R (Kd.int .u8) 5 w' w.heap.size (fun _ => True) v0_ r ∧ Below w.heap.size w w' := by
  unfold slices_Grow_byte_byte.f at h
  by_cases h0 : 0 ≤ a1
  · rw [if_pos h0] at h
    by_cases h1 : a1 ≤ 140737488355328
    · rw [if_pos h1] at h
      obtain rfl := Option.some.inj h
      clear h
      by_cases hz : a1 = 0
      · subst hz
        go_enter Try.func21, Try.ntmps21
        go_wp2
        go_ret
        exact ⟨_, rfl, Kd.R_nil _ _ _ _ _, Below.refl _ _⟩
      · have hp : 1 ≤ a1 := by omega
        clear hz
        obtain ⟨i0, hi0, _, hsz, _⟩ := info_parts info5
        go_enter Try.func21, Try.ntmps21
        go_wp2_with (at_builtin; refine Kd.R_append_zeros (Kd.int .u8) (w0 := w) w.heap.size rfl (.tmp 20) (.tmp 21) 23 3 5 (.int .u8 0) 1 rfl Try.underlying23 Try.underlying3 info5 rfl (by decide) (by omega) (.slice none 0 0) [] (0 : Int) a1 (fun _ => True) rfl rfl ?aF (fun _ _ => trivial) (Kd.R_nil _ _ _ _ _) h0 (Below.refl _ _) (Nat.le_refl _) ?aL ?_)
        case aF => exact rfl
        case aL => simp only [List.length_nil, Nat.zero_add, Nat.mul_one]; omega
        intro v1 w1 hr hb _ _
        obtain ⟨Ao, co, eo⟩ := Kd.R_slice hr
        have hl : ([] ++ List.replicate a1.toNat (0 : Int) : List Int).length = a1.toNat := by simp
        first | rw [hl] at eo | rw [List.length_replicate] at eo
        subst eo
        have hcut := cut_to (P := Try.prog) 23 5 .i64 Try.underlying23 hi0 Ao a1.toNat co 0 (by omega) (by omega) (by have z := (Kd.R_reads' hr).2.1; simpa using z)
        clear hl
        have HR := Aside0.mk (Kd.R_take (m := 0) hr (by omega))
        have HB := Aside0.mk hb
        clear hr hb
        go_wp2
        go_ret
        exact ⟨_, rfl, HR.out, HB.out⟩
    · rw [if_neg h1] at h; cases h
  · rw [if_neg h0] at h; cases h

end Go.Proofs.Ythenkaklhaehbaa.PAll
