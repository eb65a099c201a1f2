/- cong: what a call leaves of a window. -/
import Derived.Test.YtggemgbkkhpenaaCg5
namespace Go.Proofs.Ytggemgbkkhpenaa.X
open Go Go.RowKit Go.Proofs.YtggemgbkkhpenaaW.Rx
set_option linter.unusedVariables false
set_option linter.unusedSimpArgs false
theorem ch_ok {g over : Bool} {r : Tup L5} (h : (ch g over r).2.2.2.2.2.1 = 0) : g = true ∧ over = false ∧ ch g over r = (r.1, r.2.1, r.2.2.1, r.2.2.2.1, r.2.2.2.2.1, 0, ()) := by
  cases g <;> cases over <;> simp_all [ch]
def RPt (x : Tup L6) : Prop := RP x.1 x.2.1 x.2.2.1 x.2.2.2.1 x.2.2.2.2.1
theorem wrap_in (n : Int) (h0 : -9223372036854775808 ≤ n) (h1 : n < 9223372036854775808) : IntKind.i64.wrap n = n := by
  unfold IntKind.wrap
  simp [IntKind.bits, IntKind.signed]
  omega
theorem good_iff {s0 s1 s2 s3 s4 n : Int} (h : good s0 s1 s2 s3 s4 n = true) : RP s0 s1 s2 s3 s4 ∧ 1 ≤ n ∧ n ≤ 1200 := by
  unfold good at h
  rw [right_c, within_iff, Bool.and_eq_true, decide_eq_true_eq, decide_eq_true_eq] at h
  exact ⟨h.1, h.2.1, h.2.2⟩
theorem room_val {s0 s1 s2 s3 s4 : Int} (h : RP s0 s1 s2 s3 s4) : (cong_Room.F s0 s1 s2 s3 s4).1 = if s0 - s2 < 0 then 0 else s0 - s2 := by
  have h' := h
  unfold RP at h'
  unfold cong_Room.F
  simp only [right_c, h, decide_true, cond_true]
  rw [wrap_in (s0 - s2) (by omega) (by omega)]
theorem sent_ok {s0 s1 s2 s3 s4 n : Int} (he : (cong_Sent.F s0 s1 s2 s3 s4 n).2.2.2.2.2.1 = 0) : cong_Sent.F s0 s1 s2 s3 s4 n = (s0, s1, s2 + n, s3, s4, 0, ()) ∧ RP s0 s1 s2 s3 s4 ∧ RP s0 s1 (s2 + n) s3 s4 ∧ s2 + n ≤ s0 ∧ 1 ≤ n ∧ n ≤ 1200 := by
  unfold cong_Sent.F at he ⊢
  obtain ⟨h1, h2, h3⟩ := ch_ok he
  rw [Bool.and_eq_true] at h1
  obtain ⟨g1, g2, g3⟩ := good_iff h1.1
  rw [room_val g1] at h2
  have h2' : ¬ ((if s0 - s2 < 0 then (0 : Int) else s0 - s2) < n) := of_decide_eq_false h2
  have hle : s2 + n ≤ s0 := by
    by_cases c : s0 - s2 < 0
    · rw [if_pos c] at h2'; omega
    · rw [if_neg c] at h2'; omega
  have g1' := g1
  unfold RP at g1'
  have hw : IntKind.i64.wrap (s2 + n) = s2 + n := wrap_in _ (by omega) (by omega)
  rw [h3]
  refine ⟨by unfold cl33.F; rw [hw], g1, ?_, hle, g2, g3⟩
  unfold RP
  omega
theorem gone_ok {s0 s1 s2 s3 s4 n : Int} (he : (cong_Gone.F s0 s1 s2 s3 s4 n).2.2.2.2.2.1 = 0) : cong_Gone.F s0 s1 s2 s3 s4 n = (s0, s1, s2 - n, s3, s4, 0, ()) ∧ RP s0 s1 s2 s3 s4 ∧ RP s0 s1 (s2 - n) s3 s4 ∧ 1 ≤ n ∧ n ≤ 1200 := by
  unfold cong_Gone.F at he ⊢
  obtain ⟨h1, h2, h3⟩ := ch_ok he
  rw [Bool.and_eq_true] at h1
  obtain ⟨g1, g2, g3⟩ := good_iff h1.1
  simp only [decide_eq_false_iff_not] at h2
  have g1' := g1
  unfold RP at g1'
  have hw : IntKind.i64.wrap (s2 - n) = s2 - n := wrap_in _ (by omega) (by omega)
  rw [h3]
  refine ⟨by unfold cl35.F; rw [hw], g1, ?_, g2, g3⟩
  unfold RP
  omega
theorem grow_ok {s0 s1 s2 s3 s4 n : Int} (h : RP s0 s1 s2 s3 s4) (h1 : 1 ≤ n) (h2 : n ≤ 1200) : (grow.F s0 s1 s2 s3 s4 n).2.2.1 = s2 ∧ RP (grow.F s0 s1 s2 s3 s4 n).1 (grow.F s0 s1 s2 s3 s4 n).2.1 (grow.F s0 s1 s2 s3 s4 n).2.2.1 (grow.F s0 s1 s2 s3 s4 n).2.2.2.1 (grow.F s0 s1 s2 s3 s4 n).2.2.2.2.1 := by
  unfold RP at h
  have w1 : IntKind.i64.wrap (s0 + n) = s0 + n := wrap_in _ (by omega) (by omega)
  have w2 : IntKind.i64.wrap (s4 + n) = s4 + n := wrap_in _ (by omega) (by omega)
  have w3 : IntKind.i64.wrap (s0 + 1200) = s0 + 1200 := wrap_in _ (by omega) (by omega)
  have w4 : IntKind.i64.wrap (s0 - 1) = s0 - 1 := wrap_in _ (by omega) (by omega)
  have w5 : IntKind.i64.wrap (s4 + n - s0) = s4 + n - s0 := wrap_in _ (by omega) (by omega)
  have w6 : IntKind.i64.wrap ((if 1073741824 < s0 + 1200 then 1073741824 else s0 + 1200) - 1) = (if 1073741824 < s0 + 1200 then 1073741824 else s0 + 1200) - 1 := wrap_in _ (by split <;> omega) (by split <;> omega)
  have e1 : (s1 == 0) = decide (s1 = 0) := rfl
  unfold grow.F
  rw [w1, w2, w3, w4, w5, w6, e1]
  by_cases c1 : s1 = 0
  · simp only [c1, decide_true, cond_true]
    refine ⟨trivial, ?_⟩
    unfold RP
    split <;> omega
  simp only [c1, decide_false, cond_false]
  by_cases c2 : s0 < s1
  · simp only [c2, decide_true, cond_true]
    refine ⟨trivial, ?_⟩
    unfold RP
    split <;> omega
  simp only [c2, decide_false, cond_false]
  by_cases c3 : s0 ≤ s4 + n
  · simp only [c3, decide_true, cond_true]
    refine ⟨trivial, ?_⟩
    unfold RP
    by_cases c4 : 1073741824 < s0 + 1200
    · simp only [c4, if_true]
      split <;> omega
    · simp only [c4, if_false]
      split <;> omega
  simp only [c3, decide_false, cond_false]
  refine ⟨trivial, ?_⟩
  unfold RP
  split <;> omega
theorem acked_ok {s0 s1 s2 s3 s4 n t : Int} (he : (cong_Acked.F s0 s1 s2 s3 s4 n t).2.2.2.2.2.1 = 0) : (cong_Acked.F s0 s1 s2 s3 s4 n t).2.2.1 = s2 - n ∧ RP s0 s1 s2 s3 s4 ∧ RPt (cong_Acked.F s0 s1 s2 s3 s4 n t) ∧ 1 ≤ n ∧ n ≤ 1200 := by
  unfold RPt
  unfold cong_Acked.F at he ⊢
  obtain ⟨h1, h2, h3⟩ := ch_ok he
  rw [Bool.and_eq_true] at h1
  obtain ⟨g1, g2, g3⟩ := good_iff h1.1
  simp only [decide_eq_false_iff_not] at h2
  have g1' := g1
  unfold RP at g1'
  have hw : IntKind.i64.wrap (s2 - n) = s2 - n := wrap_in _ (by omega) (by omega)
  rw [h3]
  have gs : RP s0 s1 (s2 - n) s3 s4 := by unfold RP; omega
  unfold cl29.F
  rw [hw]
  obtain ⟨k1, k2⟩ := grow_ok gs g2 g3
  by_cases c : s3 ≤ t
  · simp only [c, decide_true, cond_true]; exact ⟨k1, g1, k2, g2, g3⟩
  · simp only [c, decide_false, cond_false]; exact ⟨trivial, g1, gs, g2, g3⟩
theorem lost_ok {s0 s1 s2 s3 s4 n t u : Int} (he : (cong_Lost.F s0 s1 s2 s3 s4 n t u).2.2.2.2.2.1 = 0) : (cong_Lost.F s0 s1 s2 s3 s4 n t u).2.2.1 = s2 - n ∧ RP s0 s1 s2 s3 s4 ∧ RPt (cong_Lost.F s0 s1 s2 s3 s4 n t u) ∧ 1 ≤ n ∧ n ≤ 1200 := by
  unfold RPt
  unfold cong_Lost.F at he ⊢
  obtain ⟨h1, h2, h3⟩ := ch_ok he
  rw [Bool.and_eq_true] at h1
  obtain ⟨g1, g2, g3⟩ := good_iff h1.1
  have ht := h1.2
  simp only [times, within_iff, List.all_cons, List.all_nil, Bool.and_true, Bool.and_eq_true, decide_eq_true_eq] at ht
  simp only [decide_eq_false_iff_not] at h2
  have g1' := g1
  unfold RP at g1'
  have hw : IntKind.i64.wrap (s2 - n) = s2 - n := wrap_in _ (by omega) (by omega)
  have hd : 0 ≤ s0.tdiv 2 ∧ s0.tdiv 2 ≤ s0 := by
    rw [Int.tdiv_eq_ediv_of_nonneg (by omega)]; omega
  have hw2 : IntKind.i64.wrap (s0.tdiv 2) = s0.tdiv 2 := wrap_in _ (by omega) (by omega)
  have hw3 : IntKind.i64.wrap (u + 1) = u + 1 := wrap_in _ (by omega) (by omega)
  rw [h3]
  have gs : RP s0 s1 (s2 - n) s3 s4 := by unfold RP; omega
  unfold cl32.F
  rw [hw, hw2, hw3]
  by_cases c : s3 ≤ t
  · simp only [c, decide_true, cond_true]
    refine ⟨trivial, g1, ?_, g2, g3⟩
    unfold RP
    by_cases c2 : s0.tdiv 2 < 2400 <;> by_cases c3 : 1099511627776 < u + 1 <;> simp only [c2, c3, if_true, if_false] <;> omega
  · simp only [c, decide_false, cond_false]; exact ⟨trivial, g1, gs, g2, g3⟩
/-- What a call of `does` leaves. -/
theorem does_ok (s0 s1 s2 s3 s4 k n t u : Int) (h : RP s0 s1 s2 s3 s4) : RPt (law07_does.F s0 s1 s2 s3 s4 k n t u) ∧
    ((law07_does.F s0 s1 s2 s3 s4 k n t u).2.2.2.2.2.1 = 0 → (Int.tmod k 4 = 0 → (law07_does.F s0 s1 s2 s3 s4 k n t u).2.2.1 = s2 + n ∧ (law07_does.F s0 s1 s2 s3 s4 k n t u).2.2.1 ≤ (law07_does.F s0 s1 s2 s3 s4 k n t u).1) ∧ (Int.tmod k 4 ≠ 0 → (law07_does.F s0 s1 s2 s3 s4 k n t u).2.2.1 = s2 - n) ∧ 1 ≤ n ∧ n ≤ 1200) ∧
    ((law07_does.F s0 s1 s2 s3 s4 k n t u).2.2.2.2.2.1 ≠ 0 → (law07_does.F s0 s1 s2 s3 s4 k n t u).2.2.1 = s2) := by
  have e4 : ∀ c : Int, (Int.tmod k 4 == c) = decide (Int.tmod k 4 = c) := fun c => rfl
  have en : ∀ c : Int, (c != 0) = !decide (c = 0) := fun c => rfl
  have keep : ∀ {x : Tup L6}, x.2.2.2.2.2.1 ≠ 0 → ∀ (Q : Prop), RPt ((s0, s1, s2, s3, s4, x.2.2.2.2.2.1, ()) : Tup L6) ∧ (x.2.2.2.2.2.1 = 0 → Q) ∧ (x.2.2.2.2.2.1 ≠ 0 → s2 = s2) := fun hx Q => ⟨h, fun e => absurd e hx, fun _ => rfl⟩
  unfold law07_does.F
  simp only [e4, en]
  by_cases c0 : Int.tmod k 4 = 0
  · simp only [c0, decide_true, cond_true]
    by_cases e : (cong_Sent.F s0 s1 s2 s3 s4 n).2.2.2.2.2.1 = 0
    · obtain ⟨h1, h2, h3, h4, h5, h6⟩ := sent_ok e
      simp only [e, decide_true, Bool.not_true, cond_false]
      rw [h1]
      exact ⟨h3, fun _ => ⟨fun _ => ⟨rfl, h4⟩, fun x => absurd rfl x, h5, h6⟩, fun x => absurd rfl x⟩
    · simp only [e, decide_false, Bool.not_false, cond_true]
      exact ⟨h, fun x => by first | exact absurd x e | exact x.elim, fun _ => by first | trivial | rfl⟩
  simp only [c0, decide_false, cond_false]
  by_cases c1 : Int.tmod k 4 = 1
  · simp only [c1, decide_true, cond_true]
    by_cases e : (cong_Acked.F s0 s1 s2 s3 s4 n t).2.2.2.2.2.1 = 0
    · obtain ⟨h1, h2, h3, h5, h6⟩ := acked_ok e
      simp only [e, decide_true, Bool.not_true, cond_false]
      exact ⟨h3, fun _ => ⟨fun x => by simp at x, fun _ => h1, h5, h6⟩, fun x => absurd rfl x⟩
    · simp only [e, decide_false, Bool.not_false, cond_true]
      exact ⟨h, fun x => by first | exact absurd x e | exact x.elim, fun _ => by first | trivial | rfl⟩
  simp only [c1, decide_false, cond_false]
  by_cases c2 : Int.tmod k 4 = 2
  · simp only [c2, decide_true, cond_true]
    by_cases e : (cong_Lost.F s0 s1 s2 s3 s4 n t u).2.2.2.2.2.1 = 0
    · obtain ⟨h1, h2, h3, h5, h6⟩ := lost_ok e
      simp only [e, decide_true, Bool.not_true, cond_false]
      exact ⟨h3, fun _ => ⟨fun x => by simp at x, fun _ => h1, h5, h6⟩, fun x => absurd rfl x⟩
    · simp only [e, decide_false, Bool.not_false, cond_true]
      exact ⟨h, fun x => by first | exact absurd x e | exact x.elim, fun _ => by first | trivial | rfl⟩
  simp only [c2, decide_false, cond_false]
  by_cases e : (cong_Gone.F s0 s1 s2 s3 s4 n).2.2.2.2.2.1 = 0
  · obtain ⟨h1, h2, h3, h5, h6⟩ := gone_ok e
    simp only [e, decide_true, Bool.not_true, cond_false]
    rw [h1]
    exact ⟨h3, fun _ => ⟨fun x => x.elim, fun _ => rfl, h5, h6⟩, fun x => absurd rfl x⟩
  · simp only [e, decide_false, Bool.not_false, cond_true]
    exact ⟨h, fun x => by first | exact absurd x e | exact x.elim, fun _ => by first | trivial | rfl⟩
end Go.Proofs.Ytggemgbkkhpenaa.X
