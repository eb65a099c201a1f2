/- Reasm: bounds, in plain words. -/
import Derived.Test.YtdjeadgebcndeaaRp6
import Derived.Test.YtdjeadgebcndeaaRlBounds
namespace Go.Proofs.Ytdjeadgebcndeaa.X
open Go Go.Proofs.YtdjeadgebcndeaaW.Rx
set_option linter.unusedVariables false
set_option linter.unusedSimpArgs false
/-- Never are more than window bytes held, nor goes what was read beyond what could come. -/
theorem bounds_true (W : Int) (l : List Actt) (hl : Fit l) : law09_ReasmBounds.F (l.length + 6000) W l = some true := by
  obtain ⟨k, hk⟩ : ∃ k, k = l.length + 6000 := ⟨_, rfl⟩
  have hal : law09_alive.F k = some true := by rw [hk, show l.length + 6000 = (l.length + 5980) + 20 by omega]; exact alive_F _
  rw [← hk]
  unfold law09_ReasmBounds.F
  rcases new_F k W with e | ⟨q, e, hq, hq0, _⟩
  · simp only [e, Option.bind_some, hal, cond_true, bne_t (show (1 : Int) ≠ 0 by decide)]
  simp only [e, Option.bind_some, hal, cond_true, cond_false, bne_f (show (0 : Int) = 0 from rfl)]
  refine loop_all _ l.length (fun j s => ∃ (far : Int) (q : Stm), s = (far, (j : Int), q) ∧ Good W q ∧ q.2.1 ≤ far ∧ (∀ x ∈ q.2.2.2.1, x.2 < far)) ?_ ?_ k 0 _ (Nat.zero_le _) ⟨0, q, rfl, hq, by rw [hq0]; exact Int.le_refl _, fun x hx => by rw [hq0] at hx; cases hx⟩ (by omega)
  · rintro j _ hj ⟨far, q, rfl, h, hfar, hmf⟩
    obtain ⟨a, ham, hga, hix⟩ := idx_F l j hj
    have hw := idx_w hj hl.1
    have ha0 := h.a0
    have ha1 := h.a1
    have hw1 := h.w1
    have hw2 := h.w2
    -- what is asked behind each act
    have tail : ∀ (q' : Stm) (far' : Int), Good W q' → q'.2.1 ≤ far' → decide (X.held q'.2.2.2.1 < 0) = false ∧ decide (W < X.held q'.2.2.2.1) = false ∧ decide (X.held q'.2.2.2.1 < readyOf q'.2.1 q'.2.2.2.1) = false ∧ decide (far' < q'.2.1) = false ∧ (q'.2.1 + W != IntKind.wrap IntKind.i64 (q'.2.1 + W)) = false := fun q' far' hg hf => by
      have h1 := held_nn _ _ hg.rt
      have h2 := hg.held
      have h3 := ready_le hg
      have h4 := hg.a0
      have h5 := hg.a1
      refine ⟨decide_eq_false (by omega), decide_eq_false (by omega), decide_eq_false (by omega), decide_eq_false (by omega), bne_f ?_⟩
      rw [wrap_in _ (by omega) (by omega)]
    have ends : ∀ (q' : Stm) (far' : Int), Good W q' → q'.2.1 ≤ far' → (∀ x ∈ q'.2.2.2.1, x.2 < far') → ∃ s', (∃ (far : Int) (q : Stm), s' = (far, ((j + 1 : Nat) : Int), q) ∧ Good W q ∧ q.2.1 ≤ far ∧ (∀ x ∈ q.2.2.2.1, x.2 < far)) ∧ (some (.inl (far', ((j + 1 : Nat) : Int), q')) : Option (Sum (Int × Int × Stm) Bool)) = some (.inl s') := fun q' far' h1 h2 h3 => ⟨_, ⟨far', q', rfl, h1, h2, h3⟩, rfl⟩
    unfold law09_ReasmBounds.s2
    simp only [hix, cond_true, hga, Option.bind_some, limit_F k h, hw]
    by_cases k0 : Int.tmod a.1 3 = 0
    · simp only [beq_t k0, cond_true]
      have data : ∀ fin : Bool, ∃ e q', reasm_Stream_Data.F k q a.2.1 a.2.2.1 fin = some (e, q') ∧ ((e ≠ 0 ∧ q' = q) ∨ (e = 0 ∧ DataOK W q a.2.1 a.2.2.1 fin q')) := fun fin => by
        obtain ⟨e, q', hD, hc, _⟩ := data_F k h (by omega) (n := a.2.1) (b := a.2.2.1) (fin := fin) (hl.2 a ham)
        exact ⟨e, q', hD, hc⟩
      have okcase : ∀ (fin : Bool) (q' : Stm), DataOK W q a.2.1 a.2.2.1 fin q' → IntKind.wrap IntKind.i64 (a.2.1 + ((a.2.2.1.length : Nat) : Int)) = a.2.1 + a.2.2.1.length ∧ decide (q.2.1 + W < a.2.1 + (a.2.2.1.length : Int)) = false ∧ q'.2.1 ≤ (if far < a.2.1 + (a.2.2.1.length : Int) then a.2.1 + (a.2.2.1.length : Int) else far) ∧ (∀ x ∈ q'.2.2.2.1, x.2 < (if far < a.2.1 + (a.2.2.1.length : Int) then a.2.1 + (a.2.2.1.length : Int) else far)) := fun fin q' hh => by
        have e1 := hh.n0
        have e2 := hh.lim
        have e3 := hh.mx
        have e4 := hh.same
        have hm : far ≤ (if far < a.2.1 + (a.2.2.1.length : Int) then a.2.1 + (a.2.2.1.length : Int) else far) ∧ a.2.1 + (a.2.2.1.length : Int) ≤ (if far < a.2.1 + (a.2.2.1.length : Int) then a.2.1 + (a.2.2.1.length : Int) else far) := by split <;> omega
        refine ⟨wrap_in _ (by omega) (by omega), decide_eq_false (by omega), by omega, fun x hx => ?_⟩
        rcases (hh.mem x.2).1 ⟨x, hx, (hh.good.rt.lo x hx).2, Int.le_refl _⟩ with ⟨y, hy, hyo⟩ | hm2
        · have := hmf y hy; omega
        · omega
      cases hf : a.2.2.2 with
      | true =>
        obtain ⟨e, q', hD, hc⟩ := data true
        have hg : Good W q' := by rcases hc with ⟨_, rfl⟩ | ⟨_, hh⟩; exact h; exact hh.good
        simp only [hD, Option.bind_some, cond_true, held_F k hg (by omega), ready_F k hg, at_F k hg, limit_F k hg]
        rcases hc with ⟨he, rfl⟩ | ⟨rfl, hh⟩
        · obtain ⟨t1, t2, t3, t4, t5⟩ := tail q' far hg hfar
          simp only [beq_f he, cond_false, t1, t2, t3, t4, t5]
          exact ends q' far hg hfar hmf
        · obtain ⟨o1, o2, o3, o4⟩ := okcase true q' hh
          obtain ⟨t1, t2, t3, t4, t5⟩ := tail q' _ hg o3
          simp only [beq_t (show (0 : Int) = 0 from rfl), cond_true, cond_false, o1, o2, t1, t2, t3, t4, t5]
          exact ends q' _ hg o3 o4
      | false =>
        obtain ⟨e, q', hD, hc⟩ := data false
        have hg : Good W q' := by rcases hc with ⟨_, rfl⟩ | ⟨_, hh⟩; exact h; exact hh.good
        simp only [hD, Option.bind_some, cond_false, held_F k hg (by omega), ready_F k hg, at_F k hg, limit_F k hg]
        rcases hc with ⟨he, rfl⟩ | ⟨rfl, hh⟩
        · obtain ⟨t1, t2, t3, t4, t5⟩ := tail q' far hg hfar
          simp only [beq_f he, cond_false, t1, t2, t3, t4, t5]
          exact ends q' far hg hfar hmf
        · obtain ⟨o1, o2, o3, o4⟩ := okcase false q' hh
          obtain ⟨t1, t2, t3, t4, t5⟩ := tail q' _ hg o3
          simp only [beq_t (show (0 : Int) = 0 from rfl), cond_true, cond_false, o1, o2, t1, t2, t3, t4, t5]
          exact ends q' _ hg o3 o4
    · simp only [beq_f k0, cond_false]
      by_cases k1 : Int.tmod a.1 3 = 1
      · simp only [beq_t k1, cond_true]
        obtain ⟨out, q', hD, hc⟩ := read_F k h (n := a.2.1)
        have hg := hc.good
        have hle := hc.le
        have hat := hc.at'
        have hrd := ready_le h
        have hf' : q'.2.1 ≤ far := by
          rcases Nat.eq_zero_or_pos out.length with h0 | h0
          · rw [h0] at hat; omega
          · cases hcame : q.2.2.2.1 with
            | nil => rw [hcame] at hle; simp only [readyOf] at hle; omega
            | cons x r =>
              have hx : x ∈ q.2.2.2.1 := by rw [hcame]; exact List.mem_cons_self ..
              have := hmf x hx
              rw [hcame] at hle
              simp only [readyOf] at hle
              split at hle <;> omega
        have hm' : ∀ x ∈ q'.2.2.2.1, x.2 < far := fun x hx => by
          obtain ⟨⟨y, hy, hyo⟩, _⟩ := (hc.mem x.2).1 ⟨x, hx, (hg.rt.lo x hx).2, Int.le_refl _⟩
          have := hmf y hy; omega
        obtain ⟨t1, t2, t3, t4, t5⟩ := tail q' far hg hf'
        have hln : decide ((if a.2.1 < 0 then 0 else a.2.1) < ((out.length : Nat) : Int)) = false := decide_eq_false (by
          rcases hc.len2 with h0 | h0
          · rw [h0]; simp only [List.length_nil]; split <;> omega
          · split <;> omega)
        simp only [hD, Option.bind_some, hln, cond_false, held_F k hg (by omega), ready_F k hg, at_F k hg, limit_F k hg, t1, t2, t3, t4, t5]
        exact ends q' far hg hf' hm'
      · simp only [beq_f k1, cond_false]
        obtain ⟨e, q', hD, hc⟩ := reset_F k h (n := a.2.1)
        have hg : Good W q' := by rcases hc with ⟨_, rfl⟩ | ⟨_, hh⟩; exact h; exact hh.good
        have hf' : q'.2.1 ≤ far ∧ ∀ x ∈ q'.2.2.2.1, x.2 < far := by
          rcases hc with ⟨_, rfl⟩ | ⟨_, hh⟩
          · exact ⟨hfar, hmf⟩
          · refine ⟨by rw [hh.same]; exact hfar, fun x hx => ?_⟩
            rw [hh.q'] at hx; cases hx
        obtain ⟨t1, t2, t3, t4, t5⟩ := tail q' far hg hf'.1
        simp only [hD, Option.bind_some, cond_false, held_F k hg (by omega), ready_F k hg, at_F k hg, limit_F k hg, t1, t2, t3, t4, t5]
        exact ends q' far hg hf'.1 hf'.2
  · rintro _ ⟨far, q, rfl, h, _⟩
    unfold law09_ReasmBounds.s2
    simp only [idx_e, cond_false]
end Go.Proofs.Ytdjeadgebcndeaa.X
