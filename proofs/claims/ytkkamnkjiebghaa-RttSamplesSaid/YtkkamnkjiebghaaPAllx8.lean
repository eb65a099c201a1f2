-- written by wip/tools/mp.py, a program of this session, over the printer of the kit, out of the translation
import Derived.Test.YtkkamnkjiebghaaPAllx0
import Derived.Test.YtkkamnkjiebghaaPAllx1
import Derived.Test.YtkkamnkjiebghaaPAllx6
import Derived.Test.YtkkamnkjiebghaaPAllx7
namespace Go.Proofs.Ytkkamnkjiebghaa.PAll
open Go.RowKit Go.Proofs.YtkkamnkjiebghaaW.PrintWords Go.Proofs.YtkkamnkjiebghaaW.PrintLast Go.Proofs.YtkkamnkjiebghaaW.PrintMore
attribute [local go_sem] max2_int min2_int max_two min_two max_three min_three max_four min_four   -- for this text's walks alone
set_option linter.unusedVariables false
set_option linter.unusedSimpArgs false

/-! ### turnbuckleref06_Sample: function 11 -/
attribute [local go_sem high] eqA23
def turnbuckleref06_Sample.out (a1 a2 a3 s d : Int) : Bool × Int × Int × Int × Int × Int :=
  let adj := if wrap64 (s - mn d 25) < mn a1 s then s else wrap64 (s - mn d 25)
  let ap := if wrap64 (a2 - adj) < 0 then wrap64 (-(wrap64 (a2 - adj))) else wrap64 (a2 - adj)
  (true, mn a1 s, wrap64 (Int.tdiv (wrap64 (wrap64 (7 * a2) + adj)) 8), wrap64 (Int.tdiv (wrap64 (wrap64 (3 * a3) + ap)) 4), s, 0)
def turnbuckleref06_Sample.go (a0_0 : Bool) (a0_1 a0_2 a0_3 a1 a2 : Int) (b : Bool) : Bool × Int × Int × Int × Int × Int :=
  if b = false then (false, 0, 0, 0, 0, 1) else if a0_0 = false then (true, a1, a1, wrap64 (Int.tdiv a1 2), a1, 0) else turnbuckleref06_Sample.out a0_1 a0_2 a0_3 a1 a2
def turnbuckleref06_Sample.f (a0_0 : Bool) (a0_1 : Int) (a0_2 : Int) (a0_3 : Int) (a0_4 : Int) (a1 : Int) (a2 : Int) : Option (Bool × Int × Int × Int × Int × Int) :=
  (turnbuckleref06_Right.f a0_0 a0_1 a0_2 a0_3 a0_4).bind fun t1 => (turnbuckleref06_Tick.f a1).bind fun t2 => (turnbuckleref06_Tick.f a2).bind fun t3 => some (turnbuckleref06_Sample.go a0_0 a0_1 a0_2 a0_3 a1 a2 (t1 && t2 && t3))
theorem turnbuckleref06_Sample.tick (a : Int) : ∃ t, turnbuckleref06_Tick.f a = some t := by
  unfold turnbuckleref06_Tick.f
  split <;> exact ⟨_, rfl⟩
set_option maxHeartbeats 4000000 in
/-- Right, with the very world behind it. -/
theorem turnbuckleref06_Sample.right (a0_0 : Bool) (a0_1 : Int) (a0_2 : Int) (a0_3 : Int) (a0_4 : Int) (r : Bool) (w : World) (h : turnbuckleref06_Right.f a0_0 a0_1 a0_2 a0_3 a0_4 = some r) :
    Calls Try.prog 14 #[.agg #[.bool a0_0, .int .i64 a0_1, .int .i64 a0_2, .int .i64 a0_3, .int .i64 a0_4]] w fun e w' => e = .returned (.bool r) ∧ ∃ n_, w' = (w.alloc (.cells #[.bool a0_0, .int .i64 a0_1, .int .i64 a0_2, .int .i64 a0_3, .int .i64 a0_4] 23)).drewN n_ := by
  have hu23 := Try.underlying23
  obtain ⟨t1, h1⟩ := turnbuckleref06_Sample.tick a0_1
  obtain ⟨t2, h2⟩ := turnbuckleref06_Sample.tick a0_2
  obtain ⟨t3, h3⟩ := turnbuckleref06_Sample.tick a0_3
  obtain ⟨t4, h4⟩ := turnbuckleref06_Sample.tick a0_4
  have H1 := Aside0.mk h1
  have H2 := Aside0.mk h2
  have H3 := Aside0.mk h3
  have H4 := Aside0.mk h4
  unfold turnbuckleref06_Right.f at h
  rw [h1, h2, h3, h4] at h
  simp only [Option.bind_some] at h
  clear h1 h2 h3 h4
  cases a0_0
  · simp only [Bool.false_eq_true, if_false, Option.some.injEq] at h
    subst h
    go_enter Try.func14, Try.ntmps14
    go_wp2
    go_ret
    exact ⟨by first | rfl | simp, ⟨0, rfl⟩⟩
  simp only [if_true] at h
  cases t1
  · simp only [Bool.false_eq_true, if_false, Option.some.injEq] at h
    subst h
    go_enter Try.func14, Try.ntmps14
    go_wp2_with ((go_at_call 22; (with_reducible refine (turnbuckleref06_Tick.calls a0_1 false _ H1.out).mono ?_); rintro e w' ⟨rfl, ⟨nd, rfl⟩⟩))
    go_ret
    exact ⟨rfl, ⟨_, rfl⟩⟩
  simp only [if_true] at h
  cases t2
  · simp only [Bool.false_eq_true, if_false, Option.some.injEq] at h
    subst h
    go_enter Try.func14, Try.ntmps14
    go_wp2_with (first | (go_at_call 22; (with_reducible refine (turnbuckleref06_Tick.calls a0_1 true _ H1.out).mono ?_); rintro e w' ⟨rfl, ⟨nd, rfl⟩⟩) | (go_at_call 22; (with_reducible refine (turnbuckleref06_Tick.calls a0_2 false _ H2.out).mono ?_); rintro e w' ⟨rfl, ⟨nd, rfl⟩⟩))
    go_ret
    exact ⟨rfl, ⟨_, rfl⟩⟩
  simp only [if_true] at h
  cases t3
  · simp only [Bool.false_eq_true, if_false, Option.some.injEq] at h
    subst h
    go_enter Try.func14, Try.ntmps14
    go_wp2_with (first | (go_at_call 22; (with_reducible refine (turnbuckleref06_Tick.calls a0_1 true _ H1.out).mono ?_); rintro e w' ⟨rfl, ⟨nd, rfl⟩⟩) | (go_at_call 22; (with_reducible refine (turnbuckleref06_Tick.calls a0_2 true _ H2.out).mono ?_); rintro e w' ⟨rfl, ⟨nd, rfl⟩⟩) | (go_at_call 22; (with_reducible refine (turnbuckleref06_Tick.calls a0_3 false _ H3.out).mono ?_); rintro e w' ⟨rfl, ⟨nd, rfl⟩⟩))
    go_ret
    exact ⟨rfl, ⟨_, rfl⟩⟩
  simp only [if_true] at h
  cases t4
  · simp only [Bool.false_eq_true, if_false, Option.some.injEq] at h
    subst h
    go_enter Try.func14, Try.ntmps14
    go_wp2_with (first | (go_at_call 22; (with_reducible refine (turnbuckleref06_Tick.calls a0_1 true _ H1.out).mono ?_); rintro e w' ⟨rfl, ⟨nd, rfl⟩⟩) | (go_at_call 22; (with_reducible refine (turnbuckleref06_Tick.calls a0_2 true _ H2.out).mono ?_); rintro e w' ⟨rfl, ⟨nd, rfl⟩⟩) | (go_at_call 22; (with_reducible refine (turnbuckleref06_Tick.calls a0_3 true _ H3.out).mono ?_); rintro e w' ⟨rfl, ⟨nd, rfl⟩⟩) | (go_at_call 22; (with_reducible refine (turnbuckleref06_Tick.calls a0_4 false _ H4.out).mono ?_); rintro e w' ⟨rfl, ⟨nd, rfl⟩⟩))
    go_ret
    exact ⟨rfl, ⟨_, rfl⟩⟩
  simp only [if_true, Option.some.injEq] at h
  subst h
  go_enter Try.func14, Try.ntmps14
  go_wp2_with (first | (go_at_call 22; (with_reducible refine (turnbuckleref06_Tick.calls a0_1 true _ H1.out).mono ?_); rintro e w' ⟨rfl, ⟨nd, rfl⟩⟩) | (go_at_call 22; (with_reducible refine (turnbuckleref06_Tick.calls a0_2 true _ H2.out).mono ?_); rintro e w' ⟨rfl, ⟨nd, rfl⟩⟩) | (go_at_call 22; (with_reducible refine (turnbuckleref06_Tick.calls a0_3 true _ H3.out).mono ?_); rintro e w' ⟨rfl, ⟨nd, rfl⟩⟩) | (go_at_call 22; (with_reducible refine (turnbuckleref06_Tick.calls a0_4 true _ H4.out).mono ?_); rintro e w' ⟨rfl, ⟨nd, rfl⟩⟩))
  go_ret
  exact ⟨rfl, ⟨_, rfl⟩⟩
set_option maxHeartbeats 1000000 in
set_option maxRecDepth 100000 in
theorem turnbuckleref06_Sample.calls (a0_0 : Bool) (a0_1 : Int) (a0_2 : Int) (a0_3 : Int) (a0_4 : Int) (a1 : Int) (a2 : Int) (r1 : Bool) (r2 : Int) (r3 : Int) (r4 : Int) (r5 : Int) (r6 : Int) (w : World) (h : turnbuckleref06_Sample.f a0_0 a0_1 a0_2 a0_3 a0_4 a1 a2 = some (r1, r2, r3, r4, r5, r6)) :
    Calls Try.prog 11 #[.agg #[.bool a0_0, .int .i64 a0_1, .int .i64 a0_2, .int .i64 a0_3, .int .i64 a0_4], .int .i64 a1, .int .i64 a2] w fun e w' => e = .returned (.tuple #[.agg #[.bool r1, .int .i64 r2, .int .i64 r3, .int .i64 r4, .int .i64 r5], .int .i64 r6]) ∧ Below w.heap.size w w' := by
  replace h := Option.bind_eq_some_iff.mp h
  obtain ⟨t1, h1, h⟩ := h
  replace h := Option.bind_eq_some_iff.mp h
  obtain ⟨t2, h2, h⟩ := h
  replace h := Option.bind_eq_some_iff.mp h
  obtain ⟨t3, h3, h⟩ := h
  have H1 := Aside0.mk h1
  have H2 := Aside0.mk h2
  have H3 := Aside0.mk h3
  have H := Aside0.mk (Option.some.inj h)
  clear h h1 h2 h3
  cases t1
  · have E := H.out
    simp only [turnbuckleref06_Sample.go, Bool.false_and, Bool.true_and, Bool.and_false, Bool.and_true, if_true, Bool.true_eq_false, Bool.false_eq_true, if_false, Prod.mk.injEq] at E
    obtain ⟨rfl, rfl, rfl, rfl, rfl, rfl⟩ := E
    clear H
    go_enter Try.func11, Try.ntmps11
    go_wp2_with (first | (go_at_call 14; (with_reducible refine (turnbuckleref06_Sample.right a0_0 a0_1 a0_2 a0_3 a0_4 false _ H1.out).mono ?_); rintro e w' ⟨rfl, ⟨n1, rfl⟩⟩))
    exact bodyPost_ret (v := .tuple #[.agg #[.bool false, .int .i64 0, .int .i64 0, .int .i64 0, .int .i64 0], .int .i64 1]) (by simp [results, Try.results11, go_sem]) rfl ⟨rfl, by repeat (first | (with_reducible exact Below.refl _ _) | (with_reducible apply below_alloc) | (with_reducible apply pw_below_drewN) | (with_reducible apply below_drew1) | (with_reducible refine below_set ?_ (Nat.le_add_right _ _)))⟩
  cases t2
  · have E := H.out
    simp only [turnbuckleref06_Sample.go, Bool.false_and, Bool.true_and, Bool.and_false, Bool.and_true, if_true, Bool.true_eq_false, Bool.false_eq_true, if_false, Prod.mk.injEq] at E
    obtain ⟨rfl, rfl, rfl, rfl, rfl, rfl⟩ := E
    clear H
    go_enter Try.func11, Try.ntmps11
    go_wp2_with (first | (go_at_call 14; (with_reducible refine (turnbuckleref06_Sample.right a0_0 a0_1 a0_2 a0_3 a0_4 true _ H1.out).mono ?_); rintro e w' ⟨rfl, ⟨n1, rfl⟩⟩) | (go_at_call 22; (with_reducible refine (turnbuckleref06_Tick.calls a1 false _ H2.out).mono ?_); rintro e w' ⟨rfl, ⟨nd, rfl⟩⟩))
    exact bodyPost_ret (v := .tuple #[.agg #[.bool false, .int .i64 0, .int .i64 0, .int .i64 0, .int .i64 0], .int .i64 1]) (by simp [results, Try.results11, go_sem]) rfl ⟨rfl, by repeat (first | (with_reducible exact Below.refl _ _) | (with_reducible apply below_alloc) | (with_reducible apply pw_below_drewN) | (with_reducible apply below_drew1) | (with_reducible refine below_set ?_ (Nat.le_add_right _ _)))⟩
  cases t3
  · have E := H.out
    simp only [turnbuckleref06_Sample.go, Bool.false_and, Bool.true_and, Bool.and_false, Bool.and_true, if_true, Bool.true_eq_false, Bool.false_eq_true, if_false, Prod.mk.injEq] at E
    obtain ⟨rfl, rfl, rfl, rfl, rfl, rfl⟩ := E
    clear H
    go_enter Try.func11, Try.ntmps11
    go_wp2_with (first | (go_at_call 14; (with_reducible refine (turnbuckleref06_Sample.right a0_0 a0_1 a0_2 a0_3 a0_4 true _ H1.out).mono ?_); rintro e w' ⟨rfl, ⟨n1, rfl⟩⟩) | (go_at_call 22; (with_reducible refine (turnbuckleref06_Tick.calls a1 true _ H2.out).mono ?_); rintro e w' ⟨rfl, ⟨nd, rfl⟩⟩) | (go_at_call 22; (with_reducible refine (turnbuckleref06_Tick.calls a2 false _ H3.out).mono ?_); rintro e w' ⟨rfl, ⟨nd, rfl⟩⟩))
    exact bodyPost_ret (v := .tuple #[.agg #[.bool false, .int .i64 0, .int .i64 0, .int .i64 0, .int .i64 0], .int .i64 1]) (by simp [results, Try.results11, go_sem]) rfl ⟨rfl, by repeat (first | (with_reducible exact Below.refl _ _) | (with_reducible apply below_alloc) | (with_reducible apply pw_below_drewN) | (with_reducible apply below_drew1) | (with_reducible refine below_set ?_ (Nat.le_add_right _ _)))⟩
  cases a0_0
  · have E := H.out
    simp only [turnbuckleref06_Sample.go, Bool.and_true, if_true, Bool.true_eq_false, if_false, Prod.mk.injEq] at E
    obtain ⟨rfl, rfl, rfl, rfl, rfl, rfl⟩ := E
    clear H
    go_enter Try.func11, Try.ntmps11
    go_wp2_with (first | (go_at_call 14; (with_reducible refine (turnbuckleref06_Sample.right false a0_1 a0_2 a0_3 a0_4 true _ H1.out).mono ?_); rintro e w' ⟨rfl, ⟨n1, rfl⟩⟩) | (go_at_call 22; (with_reducible refine (turnbuckleref06_Tick.calls a1 true _ H2.out).mono ?_); rintro e w' ⟨rfl, ⟨nd, rfl⟩⟩) | (go_at_call 22; (with_reducible refine (turnbuckleref06_Tick.calls a2 true _ H3.out).mono ?_); rintro e w' ⟨rfl, ⟨nd, rfl⟩⟩))
    exact bodyPost_ret (v := .tuple #[.agg #[.bool true, .int .i64 a1, .int .i64 a1, .int .i64 (wrap64 (Int.tdiv a1 2)), .int .i64 a1], .int .i64 0]) (by simp [results, Try.results11, go_sem]) rfl ⟨rfl, by repeat (first | (with_reducible exact Below.refl _ _) | (with_reducible apply below_alloc) | (with_reducible apply pw_below_drewN) | (with_reducible apply below_drew1) | (with_reducible refine below_set ?_ (Nat.le_add_right _ _)))⟩
  · by_cases b1 : a1 < a0_1 <;> by_cases b2 : 25 < a2
    all_goals
      have E := H.out
      simp only [turnbuckleref06_Sample.go, Bool.and_true, if_true, Bool.true_eq_false, if_false, turnbuckleref06_Sample.out, mn, b1, b2, Prod.mk.injEq] at E
      clear H
      obtain ⟨rfl, rfl, e3, e4, rfl, rfl⟩ := E
      have E3 := Aside0.mk e3
      have E4 := Aside0.mk e4
      clear e3 e4
      go_enter Try.func11, Try.ntmps11
      go_wp2_with (first | (go_at_call 14; (with_reducible refine (turnbuckleref06_Sample.right true a0_1 a0_2 a0_3 a0_4 true _ H1.out).mono ?_); rintro e w' ⟨rfl, ⟨n1, rfl⟩⟩) | (go_at_call 22; (with_reducible refine (turnbuckleref06_Tick.calls a1 true _ H2.out).mono ?_); rintro e w' ⟨rfl, ⟨nd, rfl⟩⟩) | (go_at_call 22; (with_reducible refine (turnbuckleref06_Tick.calls a2 true _ H3.out).mono ?_); rintro e w' ⟨rfl, ⟨nd, rfl⟩⟩))
      all_goals
        have e3 := E3.out
        have e4 := E4.out
        clear E3 E4 H1 H2 H3
        refine bodyPost_ret (v := ?_) (by simp [results, Try.results11, go_sem]; rfl) rfl ⟨?_, by repeat (first | (with_reducible exact Below.refl _ _) | (with_reducible apply below_alloc) | (with_reducible apply pw_below_drewN) | (with_reducible apply below_drew1) | (with_reducible refine below_set ?_ (Nat.le_add_right _ _)))⟩
        subst e3
        subst e4
        repeat' split
        all_goals first | rfl | (exfalso; omega)

end Go.Proofs.Ytkkamnkjiebghaa.PAll
