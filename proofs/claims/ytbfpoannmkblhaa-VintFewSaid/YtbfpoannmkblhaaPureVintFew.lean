/- Put takes as few bytes as can be, and no more of a smaller number; for every two numbers. -/
import Derived.Test.YtbfpoannmkblhaaVintPlain
import Derived.Test.YtbfpoannmkblhaaPAllx23
namespace Go.Proofs.Ytbfpoannmkblhaa.Pure
open Go.RowKit Go.Proofs.Ytbfpoannmkblhaa.PAll Go.Proofs.YtbfpoannmkblhaaW.PrintWords Go.Proofs.YtbfpoannmkblhaaW.PrintLast Go.Proofs.YtbfpoannmkblhaaW.PrintMore Go.Proofs.Ytbfpoannmkblhaa.Plain
set_option linter.unusedVariables false
theorem few_alive (k : Nat) (hk : 60 ≤ k) : turnbucklelaw01_alive.f k = some true :=
  at_rounds (fun k => turnbucklelaw01_alive.mono k) hk (by decide +kernel)
theorem putn_len (n : Int) (h : may n = true) : ((putn [] n).length : Int) = szOf n := by
  rw [may_iff] at h
  unfold putn putw
  rw [List.nil_append, List.length_reverse, le_len]
  unfold szOf
  rw [if_pos h.1]
  split
  · rfl
  split
  · rfl
  split
  · rfl
  split
  · rfl
  · omega
/-- a width that is less than the least one has no room -/
theorem less_no (n w : Int) (h : w < szOf n) (hw : w = 1 ∨ w = 2 ∨ w = 4) : mayw n w = false := by
  have p0 : powOf 0 = 64 := rfl
  have p1 : powOf 1 = 16384 := rfl
  have p2 : powOf 2 = 1073741824 := rfl
  unfold szOf at h
  rw [← Bool.not_eq_true]
  unfold mayw
  by_cases hn : 0 ≤ n
  · rw [if_pos hn] at h
    rcases hw with rfl | rfl | rfl
    · simp [p0]; split at h <;> omega
    · simp [p1]; split at h <;> (try split at h) <;> omega
    · simp [p2]; split at h <;> (try split at h) <;> (try split at h) <;> omega
  · simp [hn]
theorem few_end (k : Nat) (hk : 100 ≤ k) (n m : Int) (hn : may n = true) (hm : may m = true) :
    (if n > m then ((vint_Size.f k n).bind fun t230 => (if ((putn [] n).length : Int) = t230 then ((turnbucklelaw01_alive.f k).bind fun t231 => (some t231)) else (some false))) else (if ((putn [] n).length : Int) ≤ ((putn [] m).length : Int) then ((vint_Size.f k n).bind fun t232 => (if ((putn [] n).length : Int) = t232 then ((turnbucklelaw01_alive.f k).bind fun t233 => (some t233)) else (some false))) else (some false))) = some true := by
  rw [putn_len n hn, putn_len m hm, size_f n k (by omega), few_alive k (by omega)]
  by_cases c : n > m
  · rw [if_pos c]; simp
  · rw [if_neg c]
    have : szOf n ≤ szOf m := by
      rw [may_iff] at hn hm
      unfold szOf
      rw [if_pos hn.1, if_pos hm.1]
      repeat' split
      all_goals omega
    rw [if_pos this]; simp
theorem few_l0 (n m : Int) (hn : may n = true) (hm : may m = true) (d : Nat) : ∀ (k : Nat) (w : Int), (w = 1 ∧ d = 4 ∨ w = 2 ∧ d = 3 ∨ w = 4 ∧ d = 2 ∨ w = 8 ∧ d = 1) → d + 100 < k →
    turnbucklelaw01_VintFew.l0 k n m (putn [] n) (putn [] m) w = some true := by
  induction d with
  | zero => intro k w h; omega
  | succ d ih =>
    intro k w h hk
    obtain ⟨k, rfl⟩ : ∃ j, k = j + 1 := ⟨k - 1, by omega⟩
    rw [turnbucklelaw01_VintFew.l0]
    have hs : szOf n ≤ 8 := by
      unfold szOf
      repeat' split
      all_goals omega
    by_cases c : w < ((putn [] n).length : Int)
    · rw [if_pos c]
      rw [putn_len n hn] at c
      have hw : w = 1 ∨ w = 2 ∨ w = 4 := by omega
      rw [putwide_f [] (by simp) n w k (by omega), less_no n w c hw]
      simp only [Option.bind_some]
      rw [if_neg (show ¬ (false = true) by decide), if_neg (show ¬ ((1 : Int) = 0) by decide), w64 _ (by omega)]
      exact ih k (w * 2) (by omega) (by omega)
    · rw [if_neg c]
      exact few_end k (by omega) n m hn hm
theorem VintFew : turnbucklelaw01_VintFew.Pure := by
  intro n m _ _
  refine ⟨200, ?_⟩
  unfold turnbucklelaw01_VintFew.f
  rw [put_f [] (by simp) n 200 (by decide), put_f [] (by simp) m 200 (by decide)]
  simp only [Option.bind_some]
  have stop : ∀ x y, turnbucklelaw01_VintFew.j0 200 n m x y true = some true := fun x y => by
    rw [turnbucklelaw01_VintFew.j0, if_pos rfl, few_alive 199 (by decide)]; rfl
  by_cases hn : may n = true
  · rw [if_pos hn, if_pos rfl]
    by_cases hm : may m = true
    · rw [if_pos hm, show (((putn [] m, (0 : Int)).2 != 0)) = false from rfl, turnbucklelaw01_VintFew.j0, if_neg (by decide)]
      exact few_l0 n m hn hm 4 199 1 (by omega) (by omega)
    · rw [if_neg hm]; exact stop _ _
  · rw [if_neg hn, if_neg (by decide)]; exact stop _ _
end Go.Proofs.Ytbfpoannmkblhaa.Pure
