/- Spans, in plain words: what the statements Tells, Turns, Cuts say. -/
import Derived.Test.YtnfaneojdfjepaaSq6
namespace Go.Proofs.Ytnfaneojdfjepaa.X
open Go Go.RowKit Go.Proofs.YtnfaneojdfjepaaW.Rx
set_option linter.unusedVariables false
set_option linter.unusedSimpArgs false
theorem alive_F {k : Nat} (hk : 300 ≤ k) : law05_alive.F k = some true := by
  have hr : RightB [(1, 3), (7, 9)] := by decide
  have hc : Cut 4 6 [] [(1, 3), (7, 9)] [] := ⟨by simp, by simp, by simp⟩
  unfold law05_alive.F
  rw [(add_FC hr (by decide) hk (A := []) (B := [(1, 3), (7, 9)]) (C := []) rfl hc).1]
  have e : res ([] ++ [(loB 4 [(1, 3), (7, 9)], hiB 6 [(1, 3), (7, 9)])] ++ []) = ([(1, 9)], 0) := by decide
  rw [e]
  have h2 : ([(1, 3), (7, 9)] : Sps).length = 2 := rfl
  simp only [Option.bind_some]
  rw [same_F (by decide) (by simp; omega), right_F (by decide) (by omega), count_F (by decide) (by omega), has_F (by decide) (by omega), decide_eq_true hr, show countF [(1, 3), (7, 9)] = 6 by decide, show hasB [(1, 3), (7, 9)] 8 = true by decide]
  simp
theorem tells_true {l : Sps} (hl : l.length < 4611686018427387904) (n : Int) {k : Nat} (hk : l.length + 300 ≤ k) : law05_SpansTells.F k l n = some true := by
  unfold law05_SpansTells.F
  rw [right_F (by omega) (by omega), refRight_F (by omega) (by omega), has_F hl (by omega), refHas_F hl (by omega), count_F (by omega) (by omega), refCount_F (by omega) (by omega), alive_F (by omega)]
  simp only [Option.bind_some, beq_self_eq_true, cond_true]
  cases decide (RightB l) <;> cases hasB l n <;> rfl
theorem res_len (o : Sps) : (res o).1.length ≤ 256 := by
  unfold res
  split
  · simp
  · simp; omega
theorem turns_true {l : Sps} (hl : l.length < 4611686018427387904) (a b : Int) {k : Nat} (hk : l.length + 300 ≤ k) : law05_SpansTurns.F k l a b = some true := by
  unfold law05_SpansTurns.F
  by_cases h : RightB l ∧ Sp (a, b)
  · obtain ⟨A, B, C, e, hc, h1, h2⟩ := add_F h.1 h.2 (k := k) (by omega)
    obtain ⟨A', B', C', e', hc', h3, h4⟩ := take_F h.1 h.2 (k := k) (by omega)
    rw [h1, h2, h3, h4]
    generalize A ++ [(loB a B, hiB b B)] ++ C = u
    generalize A' ++ B'.flatMap (pL a) ++ (B'.flatMap (pR b) ++ C') = v
    have hu := res_len u
    have hv := res_len v
    simp only [Option.bind_some]
    rw [same_F (by omega) (by omega), same_F (by omega) (by omega), alive_F (by omega)]
    simp
  · obtain ⟨h1, h2⟩ := add_bad (k := k) (by omega) h (by omega)
    obtain ⟨h3, h4⟩ := take_bad (k := k) (by omega) h (by omega)
    rw [h1, h2, h3, h4]
    simp only [Option.bind_some]
    rw [same_F (by simp) (by simp; omega), alive_F (by omega)]
    simp
theorem one1_sub (u v : Int) : (one1 u v).length ≤ 1 := one1_len u v
theorem gp_len (b : Int) : ∀ (l : Sps) (m : Int), (gp b m l).length ≤ l.length + 1
  | [], m => by unfold gp; exact one1_len _ _
  | x :: r, m => by
    unfold gp
    have h1 := gp_len b r m
    have h2 := gp_len b r (x.2 + 1)
    have h3 := one1_len m b
    have h4 := one1_len m (x.1 - 1)
    simp only [List.length_cons]
    split
    · omega
    · split
      · omega
      · rw [List.length_append]; omega
theorem cuts_true {l : Sps} (hl : l.length < 4611686018427387904) (n a b : Int) {k : Nat} (hk : l.length + 300 ≤ k) : law05_SpansCuts.F k l n a b = some true := by
  unfold law05_SpansCuts.F
  obtain ⟨t1, t2⟩ := top_F (l := l) (by omega) n (k := k) (by omega)
  have ht : (topF l n).1.length ≤ l.length := by
    unfold topF
    split
    · simp
    · simp
  rw [t1, t2]
  generalize topF l n = t at ht
  by_cases h : RightB l ∧ Sp (a, b)
  · obtain ⟨h1, h2⟩ := gaps_F h.1 h.2 (k := k) (by omega)
    have := gp_len b l a
    have h3 := h.1.2
    rw [h1, h2]
    simp only [Option.bind_some]
    rw [same_F (by omega) (by omega), same_F (by omega) (by omega), alive_F (by omega)]
    simp
  · obtain ⟨h1, h2⟩ := gaps_bad (k := k) (by omega) h (by omega)
    rw [h1, h2]
    simp only [Option.bind_some]
    rw [same_F (by omega) (by omega), same_F (by simp) (by simp; omega), alive_F (by omega)]
    simp
end Go.Proofs.Ytnfaneojdfjepaa.X
