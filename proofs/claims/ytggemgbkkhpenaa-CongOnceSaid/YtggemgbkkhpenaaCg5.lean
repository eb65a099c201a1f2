/- cong and the document's answer are the same: no program in sight. -/
import Derived.Test.YtggemgbkkhpenaaCg4
namespace Go.Proofs.Ytggemgbkkhpenaa.X
open Go Go.RowKit Go.Proofs.YtggemgbkkhpenaaW.Rx
set_option linter.unusedVariables false
set_option linter.unusedSimpArgs false
def RP (s0 s1 s2 s3 s4 : Int) : Prop := 2400 ≤ s0 ∧ s0 ≤ 1073741824 ∧ (s1 = 0 ∨ 2400 ≤ s1 ∧ s1 ≤ 1073741824) ∧ 0 ≤ s2 ∧ s2 ≤ 1099511627776 ∧ -1 ≤ s3 ∧ s3 ≤ 1099511627776 ∧ 0 ≤ s4 ∧ s4 < s0
instance (s0 s1 s2 s3 s4 : Int) : Decidable (RP s0 s1 s2 s3 s4) := by unfold RP; infer_instance
theorem within_iff (a b c : Int) : (cong_within.F a b c).1 = decide (b ≤ a ∧ a ≤ c) := by
  unfold cong_within.F
  by_cases h1 : b ≤ a <;> by_cases h2 : a ≤ c <;> simp [h1, h2]
theorem right_c (s0 s1 s2 s3 s4 : Int) : (cong_Right.F s0 s1 s2 s3 s4).1 = decide (RP s0 s1 s2 s3 s4) := by
  have hw : 2400 ≤ s0 → s0 ≤ 1073741824 → IntKind.wrap IntKind.i64 (s0 - 1) = s0 - 1 := fun h1 h2 => wrap_small (s0 - 1) (by omega) (by omega)
  have e1 : (s1 == 0) = decide (s1 = 0) := rfl
  unfold cong_Right.F
  simp only [within_iff, e1]
  by_cases hp : RP s0 s1 s2 s3 s4 <;> simp only [hp, decide_true, decide_false] <;> unfold RP at hp
  all_goals
   by_cases h0 : 2400 ≤ s0 ∧ s0 ≤ 1073741824
   · rw [hw h0.1 h0.2]
     by_cases h1 : s1 = 0 <;> by_cases h2 : 2400 ≤ s1 ∧ s1 ≤ 1073741824 <;> by_cases h3 : 0 ≤ s2 ∧ s2 ≤ 1099511627776 <;> by_cases h4 : -1 ≤ s3 ∧ s3 ≤ 1099511627776 <;> by_cases h5 : 0 ≤ s4 ∧ s4 ≤ s0 - 1 <;> simp [h0, h1, h2, h3, h4, h5] <;> omega
   · simp [h0]; try omega
theorem right_r (s0 s1 s2 s3 s4 : Int) : (ref07_Right.F s0 s1 s2 s3 s4).1 = decide (RP s0 s1 s2 s3 s4) := by
  have e1 : (s1 == 0) = decide (s1 = 0) := rfl
  unfold ref07_Right.F
  simp only [bne, e1]
  by_cases hp : RP s0 s1 s2 s3 s4 <;> simp only [hp, decide_true, decide_false] <;> unfold RP at hp
  all_goals
   by_cases h0 : s0 < 2400
   · simp [h0]; try omega
   by_cases h0' : 1073741824 < s0
   · simp [h0, h0']; try omega
   by_cases h1 : s1 = 0
   · by_cases h3 : 0 ≤ s2 <;> by_cases h3' : s2 ≤ 1099511627776 <;> by_cases h4 : -1 ≤ s3 <;> by_cases h4' : s3 ≤ 1099511627776 <;> by_cases h5 : 0 ≤ s4 <;> by_cases h5' : s4 < s0 <;> simp [h0, h0', h1, h3, h3', h4, h4', h5, h5'] <;> omega
   by_cases h2 : s1 < 2400
   · simp [h0, h0', h1, h2]; try omega
   by_cases h2' : 1073741824 < s1
   · simp [h0, h0', h1, h2, h2']; try omega
   by_cases h3 : 0 ≤ s2 <;> by_cases h3' : s2 ≤ 1099511627776 <;> by_cases h4 : -1 ≤ s3 <;> by_cases h4' : s3 ≤ 1099511627776 <;> by_cases h5 : 0 ≤ s4 <;> by_cases h5' : s4 < s0 <;> simp [h0, h0', h1, h2, h2', h3, h3', h4, h4', h5, h5'] <;> omega
theorem room_eq (s0 s1 s2 s3 s4 : Int) : cong_Room.F s0 s1 s2 s3 s4 = ref07_Room.F s0 s1 s2 s3 s4 := by
  unfold cong_Room.F ref07_Room.F
  simp only [right_c, right_r]
theorem bytes_eq (n : Int) : ref07_bytes.F n = cong_within.F n 1 1200 := rfl
theorem time_eq (n : Int) : ref07_time.F n = cong_within.F n 0 1099511627776 := rfl
theorem sent_eq (s0 s1 s2 s3 s4 n : Int) : cong_Sent.F s0 s1 s2 s3 s4 n = ref07_Sent.F s0 s1 s2 s3 s4 n := by
  unfold cong_Sent.F ref07_Sent.F ch cl33.F
  simp only [good, times, right_c, right_r, room_eq, bytes_eq, within_iff, List.all_nil, Bool.and_true]
  by_cases h1 : RP s0 s1 s2 s3 s4 <;> by_cases h2 : 1 ≤ n ∧ n ≤ 1200 <;> simp [h1, h2]
theorem gone_eq (s0 s1 s2 s3 s4 n : Int) : cong_Gone.F s0 s1 s2 s3 s4 n = ref07_Gone.F s0 s1 s2 s3 s4 n := by
  unfold cong_Gone.F ref07_Gone.F ch cl35.F
  simp only [good, times, right_c, right_r, room_eq, bytes_eq, within_iff, List.all_nil, Bool.and_true]
  by_cases h1 : RP s0 s1 s2 s3 s4 <;> by_cases h2 : 1 ≤ n ∧ n ≤ 1200 <;> simp [h1, h2]
theorem acked_eq (s0 s1 s2 s3 s4 n t : Int) : cong_Acked.F s0 s1 s2 s3 s4 n t = ref07_Acked.F s0 s1 s2 s3 s4 n t := by
  have e1 : (s1 == 0) = decide (s1 = 0) := rfl
  unfold cong_Acked.F ref07_Acked.F ref07_Gone.F ch cl29.F grow.F
  simp only [good, times, right_c, right_r, room_eq, bytes_eq, time_eq, within_iff, e1, List.all_cons, List.all_nil, Bool.and_true]
  by_cases h1 : RP s0 s1 s2 s3 s4
  case neg => by_cases h3 : 0 ≤ t ∧ t ≤ 1099511627776 <;> simp [h1, h3]
  have hs := h1.2.2.2.2.2.1
  by_cases h2 : 1 ≤ n ∧ n ≤ 1200
  case neg => by_cases h3 : 0 ≤ t ∧ t ≤ 1099511627776 <;> simp [h1, h2, h3]
  by_cases h3 : 0 ≤ t ∧ t ≤ 1099511627776
  case neg => simp [h1, h2, h3]
  by_cases h4 : s2 < n
  · simp [h1, h2, h3, h4]
  by_cases h5 : s3 ≤ t
  · simp only [h1, h2, h3, h4, h5]
    by_cases h6 : 0 ≤ s3 <;> by_cases h7 : s1 = 0 <;> by_cases h8 : s0 < s1 <;> by_cases h9 : s0 ≤ IntKind.i64.wrap (s4 + n) <;> simp [h4, h6, h7, h8, h9, e1, Int.not_lt.2 h5]
  · have h6 : 0 ≤ s3 := by omega
    have h7 : t < s3 := by omega
    simp [h1, h2, h3, h4, h5, h6, h7]
theorem lost_eq (s0 s1 s2 s3 s4 n t u : Int) : cong_Lost.F s0 s1 s2 s3 s4 n t u = ref07_Lost.F s0 s1 s2 s3 s4 n t u := by
  unfold cong_Lost.F ref07_Lost.F ref07_Gone.F ch cl32.F
  simp only [good, times, right_c, right_r, room_eq, bytes_eq, time_eq, within_iff, List.all_cons, List.all_nil, Bool.and_true]
  by_cases h1 : RP s0 s1 s2 s3 s4
  case neg => by_cases h3 : 0 ≤ t ∧ t ≤ 1099511627776 <;> by_cases h3' : 0 ≤ u ∧ u ≤ 1099511627776 <;> simp [h1, h3, h3']
  have hs := h1.2.2.2.2.2.1
  by_cases h2 : 1 ≤ n ∧ n ≤ 1200
  case neg => by_cases h3 : 0 ≤ t ∧ t ≤ 1099511627776 <;> by_cases h3' : 0 ≤ u ∧ u ≤ 1099511627776 <;> simp [h1, h2, h3, h3']
  by_cases h3 : 0 ≤ t ∧ t ≤ 1099511627776
  case neg => simp [h1, h2, h3]
  by_cases h3' : 0 ≤ u ∧ u ≤ 1099511627776
  case neg => simp [h1, h2, h3, h3']
  by_cases h4 : s2 < n
  · simp [h1, h2, h3, h3', h4]
  by_cases h5 : s3 ≤ t
  · by_cases h6 : 0 ≤ s3 <;> simp [h1, h2, h3, h3', h4, h5, h6, Int.not_lt.2 h5]
  · have h6 : 0 ≤ s3 := by omega
    have h7 : t < s3 := by omega
    simp [h1, h2, h3, h3', h4, h5, h6, h7]
theorem alive_true : law07_alive.F = (true, ()) := by kernel_rfl
theorem tells_true (s0 s1 s2 s3 s4 : Int) : law07_CongTells.F s0 s1 s2 s3 s4 = (true, ()) := by
  unfold law07_CongTells.F
  simp only [law07_theirs.F, room_eq, right_c, right_r, alive_true]
  by_cases h1 : RP s0 s1 s2 s3 s4 <;> simp [h1, law07_ours.F, cong_New.F, ref07_New.F]
theorem sends_true (s0 s1 s2 s3 s4 n : Int) : law07_CongSends.F s0 s1 s2 s3 s4 n = (true, ()) := by
  unfold law07_CongSends.F
  simp [law07_theirs.F, law07_ours.F, sent_eq, gone_eq, alive_true]
theorem hears_true (s0 s1 s2 s3 s4 n t u : Int) : law07_CongHears.F s0 s1 s2 s3 s4 n t u = (true, ()) := by
  unfold law07_CongHears.F
  simp [law07_theirs.F, law07_ours.F, acked_eq, lost_eq, alive_true]
end Go.Proofs.Ytggemgbkkhpenaa.X
