/- A greater number takes no fewer bytes, and a wider head no more. -/
import Derived.Test.YtpdijecmblgmgaaPintPlain
import Derived.Test.YtpdijecmblgmgaaPAllx15
namespace Go.Proofs.Ytpdijecmblgmgaa.Pure
open Go.RowKit Go.Proofs.Ytpdijecmblgmgaa.PAll Go.Proofs.YtpdijecmblgmgaaW.PrintWords Go.Proofs.YtpdijecmblgmgaaW.PrintLast Go.Proofs.YtpdijecmblgmgaaW.PrintMore Go.Proofs.Ytpdijecmblgmgaa.Plain
set_option linter.unusedVariables false
theorem grows_alive (k : Nat) (hk : 60 ≤ k) : turnbucklelaw11_alive.f k = some true :=
  at_rounds (fun k => turnbucklelaw11_alive.mono k) hk (by decide +kernel)
theorem psize_mono (w n m : Int) (h : n ≤ m) (hm : psize w m ≠ 0) : psize w n ≤ psize w m := by
  unfold psize at hm ⊢
  by_cases b1 : Bad 0 w m
  · rw [if_pos b1] at hm; exact absurd rfl hm
  rw [if_neg b1]
  by_cases b0 : Bad 0 w n
  · rw [if_pos b0]; split <;> omega
  rw [if_neg b0]
  have := tl_mono 8 (n - Full w) (m - Full w) (by omega)
  split <;> split <;> omega
theorem psize_wider (w n : Int) (h : psize w n ≠ 0) (h' : psize (wrap64 (w + 1)) n ≠ 0) : psize (wrap64 (w + 1)) n ≤ psize w n := by
  unfold psize at h h' ⊢
  by_cases b1 : Bad 0 w n
  · rw [if_pos b1] at h; exact absurd rfl h
  by_cases b0 : Bad 0 (wrap64 (w + 1)) n
  · rw [if_pos b0] at h'; exact absurd rfl h'
  rw [if_neg b1, if_neg b0]
  have hw : 1 ≤ w ∧ w ≤ 8 := by unfold Bad at b1; omega
  rw [w64 _ (by omega)]
  have hF := full_next hw.1 hw.2
  have := tl_mono 8 (n - Full (w + 1)) (n - Full w) (by omega)
  split <;> split <;> omega
theorem PintGrows : turnbucklelaw11_PintGrows.Pure := by
  intro a b w _ _ _
  refine ⟨100, ?_⟩
  unfold turnbucklelaw11_PintGrows.f
  rw [size_f _ _ 100 (by decide), size_f _ _ 100 (by decide), size_f _ _ 100 (by decide), grows_alive 100 (by decide)]
  simp only [Option.bind_some]
  have hm : mn a b ≤ mx a b := by have := mn_le a b; have := mx_le a b; omega
  have h1 := psize_mono w (mn a b) (mx a b) hm
  have h2 := psize_wider w (mn a b)
  by_cases e1 : psize w (mn a b) = 0
  · rw [if_pos e1]
  rw [if_neg e1]
  by_cases e3 : psize (wrap64 (w + 1)) (mn a b) = 0
  · by_cases e2 : psize w (mx a b) = 0
    · rw [if_pos e2, if_pos e3]
    · rw [if_neg e2, if_pos (h1 e2), if_pos e3]
  · by_cases e2 : psize w (mx a b) = 0
    · rw [if_pos e2, if_neg e3, if_pos (h2 e1 e3)]
    · rw [if_neg e2, if_pos (h1 e2), if_neg e3, if_pos (h2 e1 e3)]
end Go.Proofs.Ytpdijecmblgmgaa.Pure
