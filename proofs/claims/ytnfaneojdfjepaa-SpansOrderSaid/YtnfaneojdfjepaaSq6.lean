/- Spans, in plain words: Top, Gaps. -/
import Derived.Test.YtnfaneojdfjepaaSq5
namespace Go.Proofs.Ytnfaneojdfjepaa.X
open Go Go.RowKit Go.Proofs.YtnfaneojdfjepaaW.Rx
set_option linter.unusedVariables false
set_option linter.unusedSimpArgs false
theorem refTop_at {l : Sps} (hl : l.length ≤ 300) (n : Int) (h0 : 0 ≤ n) (k : Nat) : ∀ (q j : Nat), j ≤ l.length → l.length - j < q → iter (ref05_Top.s1 k n l) q ((l.take j).drop (l.length - min n.toNat l.length), (j : Int)) = some (l.drop (l.length - min n.toNat l.length), 0) := by
  intro q
  induction q with
  | zero => intro j _ h; omega
  | succ q ih =>
    intro j hj hq
    simp only [iter]
    rcases Nat.lt_or_ge j l.length with h | h
    · have hw : IntKind.i64.wrap ((j : Int) + 1) = ((j + 1 : Nat) : Int) := by rw [wrap_in _ (by omega) (by omega)]; omega
      have hlt : decide ((j : Int) < (l.length : Int)) = true := decide_eq_true (by omega)
      have hsub : IntKind.i64.wrap ((l.length : Int) - (j : Int)) = (l.length : Int) - j := wrap_in _ (by omega) (by omega)
      have e := ih (j + 1) h (by omega)
      simp only [ref05_Top.s1, hlt, cond_true, hsub]
      have ht : l.take (j + 1) = l.take j ++ [l[j]] := by rw [List.take_add_one, List.getElem?_eq_getElem h]; rfl
      by_cases hc : (l.length : Int) - j ≤ n
      · rw [decide_eq_true hc]
        simp only [cond_true, getI_nat, List.getElem?_eq_getElem h, Option.bind_some, hw]
        have hlen : ((l.take j).drop (l.length - min n.toNat l.length)).length ≤ 300 := by simp; omega
        rw [decide_eq_true (by simp only [List.length_cons, List.length_nil]; omega)]
        simp only [cond_true, Option.bind_some]
        rw [ht, List.drop_append_of_le_length (by rw [List.length_take]; omega)] at e
        exact e
      · rw [decide_eq_false hc]
        simp only [cond_false, Option.bind_some, hw]
        have e1 : (l.take j).drop (l.length - min n.toNat l.length) = [] := List.drop_of_length_le (by rw [List.length_take]; omega)
        have e2 : (l.take (j + 1)).drop (l.length - min n.toNat l.length) = [] := List.drop_of_length_le (by rw [List.length_take]; omega)
        rw [e2] at e
        rw [e1]
        exact e
    · have : j = l.length := by omega
      subst this
      have hlt : decide ((l.length : Int) < (l.length : Int)) = false := decide_eq_false (by omega)
      simp only [ref05_Top.s1, hlt, cond_false, Option.bind_some, List.take_length]
def topF (l : Sps) (n : Int) : Sps × Int := if RightB l ∧ 0 ≤ n then (l.drop (l.length - min n.toNat l.length), 0) else ([], 1)
theorem top_F {l : Sps} (hl : l.length < 9223372036854775807) (n : Int) {k : Nat} (hk : l.length < k) : spans_Top.F k l n = some (topF l n) ∧ ref05_Top.F k l n = some (topF l n) := by
  unfold spans_Top.F ref05_Top.F
  rw [right_F hl hk, refRight_F hl hk]
  simp only [Option.bind_some]
  by_cases hr : RightB l
  case neg => rw [decide_eq_false hr, show topF l n = ([], 1) from if_neg (fun h => hr h.1)]; exact ⟨rfl, rfl⟩
  rw [decide_eq_true hr]
  simp only [cond_true]
  by_cases h0 : n < 0
  · rw [decide_eq_true h0, show topF l n = ([], 1) from if_neg (by omega)]; exact ⟨rfl, rfl⟩
  have hlen := hr.2
  rw [decide_eq_false h0, show topF l n = (l.drop (l.length - min n.toNat l.length), 0) from if_pos ⟨hr, by omega⟩]
  simp only [cond_false]
  constructor
  · generalize hm : IntKind.i64.wrap ((l.length : Int) - if (l.length : Int) < n then (l.length : Int) else n) = m
    have hm2 : m = ((l.length - min n.toNat l.length : Nat) : Int) := by
      rw [← hm, wrap_in _ (by split <;> omega) (by split <;> omega)]
      split <;> omega
    rw [hm2, decide_eq_true (by omega)]
    simp only [cond_true, Int.toNat_natCast]
    have e : (l.drop (l.length - min n.toNat l.length)).take (l.length - (l.length - min n.toNat l.length)) = l.drop (l.length - min n.toNat l.length) := List.take_of_length_le (by rw [List.length_drop]; exact Nat.le_refl _)
    rw [e]
    unfold slices_Clone_api_Span_api_Span.F
    rw [decide_eq_true (by rw [List.length_drop]; omega)]
    rfl
  · have := refTop_at (l := l) (by omega) n (by omega) k k 0 (Nat.zero_le _) (by omega)
    simpa using this
/-- What is not in a set, from m to b. -/
def gp (b : Int) : Int → Sps → Sps
  | m, [] => one1 m b
  | m, x :: r => if x.2 < m then gp b m r else if b < x.1 then one1 m b else one1 m (x.1 - 1) ++ gp b (x.2 + 1) r
def rp (b : Int) : Int → Sps → Sps
  | m, [] => one1 m b
  | m, x :: r => one1 m (x.1 - 1) ++ rp b (x.2 + 1) r
def gapG (b : Int) (t : Int × Sps) (x : Int × Int) : Option (Sum (Int × Sps) (Sps × Int)) :=
  bif decide (x.2 < t.1) then some (.inl t) else bif decide (b < x.1) then (bif decide (t.1 ≤ b) then (bif decide ((t.2.length + 1) * 16 ≤ 140737488355328) then some (.inr (t.2 ++ [(t.1, b)], 0)) else none) else some (.inr (t.2, 0)))
  else bif decide (t.1 < x.1) then (bif decide ((t.2.length + 1) * 16 ≤ 140737488355328) then some (.inl (IntKind.i64.wrap (x.2 + 1), t.2 ++ [(t.1, IntKind.i64.wrap (x.1 - 1))])) else none) else some (.inl (IntKind.i64.wrap (x.2 + 1), t.2))
def gapE (b : Int) (t : Int × Sps) : Option (Sps × Int) := bif decide (t.1 ≤ b) then (bif decide ((t.2.length + 1) * 16 ≤ 140737488355328) then some (t.2 ++ [(t.1, b)], 0) else none) else some (t.2, 0)
theorem gap_fold {l : Sps} (hl : l.length < 9223372036854775807) {k : Nat} (hk : l.length < k) (a b : Int) : iter (spans_Gaps.s2 k b l) k (a, [], 0) = foldE (gapG b) (gapE b) l (a, []) := by
  refine iter_idx l (spans_Gaps.s2 k b l) (fun j (t : Int × Sps) => (t.1, t.2, (j : Int))) (gapG b) (gapE b) (fun j t x hx hj => ?_) (fun t => ?_) k (a, []) hk
  · have hw : IntKind.i64.wrap ((j : Int) + 1) = ((j + 1 : Nat) : Int) := by rw [wrap_in _ (by omega) (by omega)]; omega
    have hlt : decide ((j : Int) < (l.length : Int)) = true := decide_eq_true (by omega)
    simp only [spans_Gaps.s2, hlt, cond_true, getI_nat, hx, Option.bind_some, hw, gapG, map_bif, Option.map_some, Option.map_none, step_inl, step_inr, List.length_cons, List.length_nil]
  · have hlt : decide ((l.length : Int) < (l.length : Int)) = false := decide_eq_false (by omega)
    simp only [spans_Gaps.s2, hlt, cond_false, gapE, map_bif, Option.map_some, Option.map_none, List.length_cons, List.length_nil]
theorem gapE_eq (b m : Int) (s : Sps) (hs : s.length ≤ 1000) : gapE b (m, s) = some (s ++ one1 m b, 0) := by
  unfold gapE one1
  dsimp only
  by_cases h : m ≤ b
  · rw [decide_eq_true h, if_pos h, decide_eq_true (by omega)]; rfl
  · rw [decide_eq_false h, if_neg h, List.append_nil]; rfl
theorem gap_go (b : Int) : ∀ (l : Sps) (m : Int) (s : Sps), (∀ x ∈ l, Sp x) → s.length + l.length ≤ 1000 → foldE (gapG b) (gapE b) l (m, s) = some (s ++ gp b m l, 0)
  | [], m, s, _, hn => by simp only [foldE, gp]; exact gapE_eq b m s (by simpa using hn)
  | x :: r, m, s, hs, hn => by
    have hx := hs x (by simp)
    unfold Sp at hx
    have hr : ∀ y ∈ r, Sp y := fun y hy => hs y (by simp [hy])
    simp only [List.length_cons] at hn
    have hq : decide ((s.length + 1) * 16 ≤ 140737488355328) = true := decide_eq_true (by omega)
    simp only [foldE, gapG, gp, hq]
    by_cases h1 : x.2 < m
    · rw [decide_eq_true h1, if_pos h1]
      simp only [cond_true, Option.bind_some]
      exact gap_go b r m s hr (by omega)
    rw [decide_eq_false h1, if_neg h1]
    simp only [cond_false]
    by_cases h2 : b < x.1
    · rw [decide_eq_true h2, if_pos h2]
      simp only [cond_true]
      unfold one1
      by_cases h3 : m ≤ b
      · rw [decide_eq_true h3, if_pos h3]; rfl
      · rw [decide_eq_false h3, if_neg h3, List.append_nil]; rfl
    rw [decide_eq_false h2, if_neg h2, wrap_in (x.2 + 1) (by omega) (by omega), wrap_in (x.1 - 1) (by omega) (by omega)]
    simp only [cond_false, cond_true]
    unfold one1
    by_cases h3 : m < x.1
    · rw [decide_eq_true h3, if_pos (by omega)]
      simp only [cond_true, Option.bind_some]
      rw [gap_go b r _ _ hr (by simp only [List.length_append, List.length_cons, List.length_nil]; omega)]
      simp
    · rw [decide_eq_false h3, if_neg (by omega)]
      simp only [cond_false, Option.bind_some, List.nil_append]
      exact gap_go b r _ _ hr (by omega)
def rgapG (t : Sps × Int) (x : Int × Int) : Option (Sum (Sps × Int) (Sps × Int)) :=
  bif decide (t.2 < x.1) then (bif decide ((t.1.length + 1) * 16 ≤ 140737488355328) then some (.inl (t.1 ++ [(t.2, IntKind.i64.wrap (x.1 - 1))], IntKind.i64.wrap (x.2 + 1))) else none) else some (.inl (t.1, IntKind.i64.wrap (x.2 + 1)))
theorem rgap_fold {l : Sps} (hl : l.length < 9223372036854775807) {k : Nat} (hk : l.length < k) (a b : Int) : iter (ref05_Gaps.s3 k b l) k ([], a, 0) = foldE rgapG (fun t => gapE b (t.2, t.1)) l ([], a) := by
  refine iter_idx l (ref05_Gaps.s3 k b l) (fun j (t : Sps × Int) => (t.1, t.2, (j : Int))) rgapG (fun t => gapE b (t.2, t.1)) (fun j t x hx hj => ?_) (fun t => ?_) k ([], a) hk
  · have hw : IntKind.i64.wrap ((j : Int) + 1) = ((j + 1 : Nat) : Int) := by rw [wrap_in _ (by omega) (by omega)]; omega
    have hlt : decide ((j : Int) < (l.length : Int)) = true := decide_eq_true (by omega)
    simp only [ref05_Gaps.s3, hlt, cond_true, getI_nat, hx, Option.bind_some, hw, rgapG, map_bif, Option.map_some, Option.map_none, step_inl, List.length_cons, List.length_nil]
  · have hlt : decide ((l.length : Int) < (l.length : Int)) = false := decide_eq_false (by omega)
    simp only [ref05_Gaps.s3, hlt, cond_false, gapE, map_bif, Option.map_some, Option.map_none, List.length_cons, List.length_nil]
theorem rgap_go (b : Int) : ∀ (l : Sps) (m : Int) (s : Sps), (∀ x ∈ l, Sp x) → s.length + l.length ≤ 1000 → foldE rgapG (fun t => gapE b (t.2, t.1)) l (s, m) = some (s ++ rp b m l, 0)
  | [], m, s, _, hn => by simp only [foldE, rp]; exact gapE_eq b m s (by simpa using hn)
  | x :: r, m, s, hs, hn => by
    have hx := hs x (by simp)
    unfold Sp at hx
    have hr : ∀ y ∈ r, Sp y := fun y hy => hs y (by simp [hy])
    simp only [List.length_cons] at hn
    have hq : decide ((s.length + 1) * 16 ≤ 140737488355328) = true := decide_eq_true (by omega)
    simp only [foldE, rgapG, rp, hq]
    rw [wrap_in (x.2 + 1) (by omega) (by omega), wrap_in (x.1 - 1) (by omega) (by omega)]
    unfold one1
    by_cases h3 : m < x.1
    · rw [decide_eq_true h3, if_pos (by omega)]
      simp only [cond_true, Option.bind_some]
      rw [rgap_go b r _ _ hr (by simp only [List.length_append, List.length_cons, List.length_nil]; omega)]
      simp
    · rw [decide_eq_false h3, if_neg (by omega)]
      simp only [cond_false, Option.bind_some, List.nil_append]
      exact rgap_go b r _ _ hr (by omega)
theorem clip_none {a b : Int} {m : Int} : ∀ {l : Sps}, Rise m l → b < m → l.flatMap (pC a b) = [] := fun {l} h hm => by
  rw [List.flatMap_eq_nil_iff]
  intro x hx
  have h1 := rise_mem h x hx
  have h2 := h1.2
  unfold Sp at h2
  unfold pC one1
  rw [if_neg]
  split <;> split <;> omega
theorem gp_none {b : Int} {m : Int} : ∀ {l : Sps}, Rise (m + 1) l → b < m → gp b m l = []
  | [], _, h => by unfold gp one1; rw [if_neg (by omega)]
  | x :: r, hr, h => by
    have h1 := hr.1
    have h2 := hr.2.1
    unfold Sp at h2
    unfold gp one1
    rw [if_neg (by omega), if_pos (by omega), if_neg (by omega)]
theorem gp_rp {a b : Int} (hab : Sp (a, b)) : ∀ (l : Sps) (m w : Int), Rise w l → a ≤ m → (m = a ∨ Rise (m + 1) l) → gp b m l = rp b m (l.flatMap (pC a b))
  | [], m, w, _, _, _ => rfl
  | x :: r, m, w, hr, ham, hm => by
    have hab' : 0 ≤ a ∧ a ≤ b ∧ b ≤ 4611686018427387903 := hab
    have hx := hr.2.1
    unfold Sp at hx
    rw [List.flatMap_cons]
    unfold gp
    by_cases h1 : x.2 < m
    · rw [if_pos h1]
      have hma : m = a := by
        rcases hm with h | h
        · exact h
        · have := h.1; omega
      have e : pC a b x = [] := by
        unfold pC one1
        rw [if_neg]
        split <;> split <;> omega
      rw [e, List.nil_append]
      exact gp_rp hab r m _ hr.2.2 ham (Or.inl hma)
    rw [if_neg h1]
    by_cases h2 : b < x.1
    · rw [if_pos h2]
      have : (x :: r).flatMap (pC a b) = [] := clip_none (m := x.1) ⟨Int.le_refl _, hr.2⟩ h2
      rw [List.flatMap_cons] at this
      rw [this]; rfl
    rw [if_neg h2]
    have e : pC a b x = [(if x.1 < a then a else x.1, if b < x.2 then b else x.2)] := by
      unfold pC one1
      rw [if_pos]
      split <;> split <;> omega
    rw [e, List.cons_append, List.nil_append]
    unfold rp
    dsimp only
    congr 1
    · unfold one1
      by_cases h3 : m ≤ x.1 - 1
      · rw [if_neg (by omega : ¬ x.1 < a)]
      · rw [if_neg h3, if_neg]
        split <;> omega
    · by_cases h4 : b < x.2
      · rw [if_pos h4, gp_none (by have := hr.2.2; rw [show x.2 + 1 + 1 = x.2 + 2 by omega]; exact this) (by omega)]
        rw [clip_none hr.2.2 (by omega)]
        unfold rp one1
        rw [if_neg (by omega)]
      · rw [if_neg h4]
        exact gp_rp hab r _ _ hr.2.2 (by omega) (Or.inr (by rw [show x.2 + 1 + 1 = x.2 + 2 by omega]; exact hr.2.2))
theorem clip_sp {a b : Int} (hab : Sp (a, b)) {l : Sps} (hs : ∀ x ∈ l, Sp x) : ∀ x ∈ l.flatMap (pC a b), Sp x := by
  have hab' : 0 ≤ a ∧ a ≤ b ∧ b ≤ 4611686018427387903 := hab
  intro y hy
  obtain ⟨x, hx, hy⟩ := List.mem_flatMap.1 hy
  have h1 := hs x hx
  unfold Sp at h1 ⊢
  unfold pC one1 at hy
  by_cases h : (if x.1 < a then a else x.1) ≤ if b < x.2 then b else x.2
  · rw [if_pos h, List.mem_singleton] at hy
    subst hy
    revert h
    dsimp only
    split <;> split <;> omega
  · rw [if_neg h] at hy
    simp at hy
theorem gaps_F {l : Sps} (hr : RightB l) {a b : Int} (hab : Sp (a, b)) {k : Nat} (hk : 300 ≤ k) : spans_Gaps.F k l a b = some (gp b a l, 0) ∧ ref05_Gaps.F k l a b = some (gp b a l, 0) := by
  have hlen := hr.2
  have hs : ∀ x ∈ l, Sp x := fun x hx => (rise_mem hr.1 x hx).2
  unfold spans_Gaps.F ref05_Gaps.F
  rw [right_F (by omega) (by omega), refRight_F (by omega) (by omega), isSpan_F, refSpan_F, decide_eq_true hr, decide_eq_true hab]
  simp only [cond_true, Option.bind_some]
  constructor
  · rw [gap_fold (by omega) (by omega), gap_go b l a [] hs (by simp; omega), List.nil_append]
  · have hcl : (l.flatMap (pC a b)).length ≤ 1 * l.length := flat_len (fun x => one1_len _ _) l
    rw [clip_F (by omega) (by omega)]
    simp only [Option.bind_some]
    rw [rgap_fold (by omega) (by omega), rgap_go b _ a [] (clip_sp hab hs) (by simp only [List.length_nil]; omega), List.nil_append, gp_rp hab l a 0 hr.1 (Int.le_refl _) (Or.inl rfl)]
theorem gaps_bad {l : Sps} (hl : l.length < 9223372036854775807) {a b : Int} (h : ¬ (RightB l ∧ Sp (a, b))) {k : Nat} (hk : l.length < k) : spans_Gaps.F k l a b = some ([], 1) ∧ ref05_Gaps.F k l a b = some ([], 1) := by
  unfold spans_Gaps.F ref05_Gaps.F
  rw [right_F hl hk, refRight_F hl hk, isSpan_F, refSpan_F]
  by_cases h1 : RightB l
  · have h2 : ¬ Sp (a, b) := fun h' => h ⟨h1, h'⟩
    rw [decide_eq_true h1, decide_eq_false h2]
    exact ⟨rfl, rfl⟩
  · rw [decide_eq_false h1]
    exact ⟨rfl, rfl⟩
end Go.Proofs.Ytnfaneojdfjepaa.X
