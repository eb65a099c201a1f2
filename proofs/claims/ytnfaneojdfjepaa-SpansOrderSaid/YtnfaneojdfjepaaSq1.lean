/- Spans, in plain words: which sets are right, how many numbers they have. -/
import Derived.Test.YtnfaneojdfjepaaRxU
import Derived.Test.YtnfaneojdfjepaaGc
namespace Go.Proofs.Ytnfaneojdfjepaa.X
open Go Go.RowKit Go.Proofs.YtnfaneojdfjepaaW.Rx
set_option linter.unusedVariables false
set_option linter.unusedSimpArgs false
abbrev Sps := List (Int × Int)
def Sp (x : Int × Int) : Prop := 0 ≤ x.1 ∧ x.1 ≤ x.2 ∧ x.2 ≤ 4611686018427387903
instance (x : Int × Int) : Decidable (Sp x) := by unfold Sp; infer_instance
theorem isSpan_F (k : Nat) (a b : Int) : spans_isSpan.F k a b = some (decide (Sp (a, b))) := by
  unfold spans_isSpan.F Sp
  by_cases h1 : 0 ≤ a <;> by_cases h2 : a ≤ b <;> by_cases h3 : b ≤ 4611686018427387903 <;> simp [h1, h2, h3]
theorem refSpan_F (k : Nat) (a b : Int) : ref05_Span.F k a b = some (decide (Sp (a, b))) := isSpan_F k a b
/-- Spans that rise, from m on. -/
def Rise : Int → Sps → Prop
  | _, [] => True
  | m, x :: r => m ≤ x.1 ∧ Sp x ∧ Rise (x.2 + 2) r
instance riseDec : ∀ (m : Int) (l : Sps), Decidable (Rise m l)
  | _, [] => isTrue trivial
  | m, x :: r => by
    have := riseDec (x.2 + 2) r
    unfold Rise; infer_instance
theorem right_fold {l : Sps} (hl : l.length < 9223372036854775807) {k : Nat} (hk : l.length < k) : spans_Right.F k l = foldE (fun (m : Int) (x : Int × Int) => bif decide (x.1 < m) then some (.inr false) else bif decide (Sp x) then some (.inl (IntKind.i64.wrap (x.2 + 2))) else some (.inr false)) (fun _ => some (decide ((l.length : Int) ≤ 256))) l 0 := by
  unfold spans_Right.F
  refine iter_idx l (spans_Right.s0 k l) (fun j (m : Int) => (m, (j : Int))) _ _ (fun j m x hx hj => ?_) (fun m => ?_) k 0 hk
  · have hw : IntKind.i64.wrap ((j : Int) + 1) = ((j + 1 : Nat) : Int) := by rw [wrap_in _ (by omega) (by omega)]; omega
    have hlt : decide ((j : Int) < (l.length : Int)) = true := decide_eq_true (by omega)
    simp only [spans_Right.s0, hlt, cond_true, getI_nat, hx, Option.bind_some, isSpan_F, hw, map_bif, Option.map_some, step_inl, step_inr]
  · have hlt : decide ((l.length : Int) < (l.length : Int)) = false := decide_eq_false (by omega)
    simp only [spans_Right.s0, hlt, cond_false]
    cases decide ((l.length : Int) ≤ 256) <;> rfl
theorem right_go (b : Bool) : ∀ (l : Sps) (m : Int), foldE (fun (m : Int) (x : Int × Int) => bif decide (x.1 < m) then some (.inr false) else bif decide (Sp x) then some (.inl (IntKind.i64.wrap (x.2 + 2))) else some (.inr false)) (fun _ => some b) l m = some (decide (Rise m l) && b)
  | [], m => by
    simp only [foldE]
    rw [decide_eq_true (by trivial : Rise m [])]; rfl
  | x :: r, m => by
    simp only [foldE]
    by_cases h1 : x.1 < m
    · have : ¬ Rise m (x :: r) := fun h => by have := h.1; omega
      simp [h1, this]
    by_cases h2 : Sp x
    · have h2' := h2
      unfold Sp at h2'
      rw [decide_eq_false h1, decide_eq_true h2, wrap_in (x.2 + 2) (by omega) (by omega)]
      simp only [cond_false, cond_true, Option.bind_some]
      rw [right_go b r]
      have : Rise m (x :: r) ↔ Rise (x.2 + 2) r := ⟨fun h => h.2.2, fun h => ⟨by omega, h2, h⟩⟩
      simp [this]
    · have : ¬ Rise m (x :: r) := fun h => h2 h.2.1
      simp [h1, h2, this]
/-- May a set be? -/
def RightB (l : Sps) : Prop := Rise 0 l ∧ l.length ≤ 256
instance (l : Sps) : Decidable (RightB l) := by unfold RightB; infer_instance
theorem right_F {l : Sps} (hl : l.length < 9223372036854775807) {k : Nat} (hk : l.length < k) : spans_Right.F k l = some (decide (RightB l)) := by
  rw [right_fold hl hk, right_go]
  unfold RightB
  by_cases h1 : Rise 0 l <;> by_cases h2 : l.length ≤ 256 <;> simp [h1, h2] <;> omega
/-- The document's rows: with the last end, if there was one. -/
def rowsGo : Option Int → Sps → Bool
  | _, [] => true
  | none, x :: r => decide (Sp x) && rowsGo (some x.2) r
  | some p, x :: r => decide (Sp x) && (!decide (IntKind.i64.wrap (x.1 - 1) ≤ p) && rowsGo (some x.2) r)
theorem rows_at {l : Sps} (hl : l.length < 9223372036854775807) (k : Nat) : ∀ (q j : Nat), j ≤ l.length → l.length - j < q → iter (ref05_rows.s0 k l) q (j : Int) = some (rowsGo (if j = 0 then none else (l[j - 1]?).map (·.2)) (l.drop j)) := by
  intro q
  induction q with
  | zero => intro j _ h; omega
  | succ q ih =>
    intro j hj hq
    rcases Nat.lt_or_ge j l.length with h | h
    · have hw : IntKind.i64.wrap ((j : Int) + 1) = ((j + 1 : Nat) : Int) := by rw [wrap_in _ (by omega) (by omega)]; omega
      have hlt : decide ((j : Int) < (l.length : Int)) = true := decide_eq_true (by omega)
      have hx : l[j]? = some l[j] := List.getElem?_eq_getElem h
      have e := ih (j + 1) h (by omega)
      rw [if_neg (by omega), Nat.add_sub_cancel, hx, Option.map_some] at e
      rw [List.drop_eq_getElem_cons h]
      simp only [iter, ref05_rows.s0, hlt, cond_true, getI_nat, hx, Option.bind_some, refSpan_F, hw]
      by_cases hs : Sp (l[j].1, l[j].2)
      · rw [decide_eq_true hs]
        simp only [cond_true]
        by_cases h0 : j = 0
        · subst h0
          rw [decide_eq_false (by omega)]
          simp only [cond_false, Option.bind_some]
          rw [e]
          simp only [if_true, rowsGo]
          rw [decide_eq_true hs]; rfl
        · have hp : l[j - 1]? = some (l[j - 1]'(by omega)) := List.getElem?_eq_getElem (by omega)
          have hw1 : IntKind.i64.wrap ((j : Int) - 1) = ((j - 1 : Nat) : Int) := by rw [wrap_in _ (by omega) (by omega)]; omega
          rw [decide_eq_true (by omega), hw1, getI_nat, hp, if_neg h0]
          simp only [cond_true, Option.bind_some, Option.map_some, rowsGo]
          rw [decide_eq_true hs]
          by_cases h2 : IntKind.i64.wrap (l[j].1 - 1) ≤ (l[j - 1]'(by omega)).2
          · rw [decide_eq_true h2]; rfl
          · rw [decide_eq_false h2]
            simp only [cond_false, Option.bind_some]
            rw [e]; rfl
      · rw [decide_eq_false hs]
        simp only [cond_false, Option.bind_some]
        cases (if j = 0 then none else (l[j - 1]?).map (·.2)) <;> simp only [rowsGo] <;> rw [decide_eq_false hs] <;> rfl
    · have : j = l.length := by omega
      subst this
      have hlt : decide ((l.length : Int) < (l.length : Int)) = false := decide_eq_false (by omega)
      rw [List.drop_length]
      simp only [iter, ref05_rows.s0, hlt, cond_false, Option.bind_some]
      cases (if l.length = 0 then none else (l[l.length - 1]?).map (·.2)) <;> rfl
theorem rows_some_iff : ∀ (l : Sps) (p : Int), 0 ≤ p → p ≤ 4611686018427387903 → (rowsGo (some p) l = true ↔ Rise (p + 2) l)
  | [], p, _, _ => by simp [rowsGo, Rise]
  | x :: r, p, h0, h1 => by
    simp only [rowsGo, Rise, Bool.and_eq_true, decide_eq_true_eq, Bool.not_eq_true', decide_eq_false_iff_not, Int.not_le]
    constructor
    · rintro ⟨h2, h3, h4⟩
      have h2' := h2
      unfold Sp at h2'
      rw [wrap_in (x.1 - 1) (by omega) (by omega)] at h3
      exact ⟨by omega, h2, (rows_some_iff r _ (by omega) (by omega)).1 h4⟩
    · rintro ⟨h3, h2, h4⟩
      have h2' := h2
      unfold Sp at h2'
      rw [wrap_in (x.1 - 1) (by omega) (by omega)]
      exact ⟨h2, by omega, (rows_some_iff r _ (by omega) (by omega)).2 h4⟩
theorem rows_iff : ∀ (l : Sps), rowsGo none l = true ↔ Rise 0 l
  | [] => by simp [rowsGo, Rise]
  | x :: r => by
    simp only [rowsGo, Rise, Bool.and_eq_true, decide_eq_true_eq]
    constructor
    · rintro ⟨h2, h4⟩
      have h2' := h2
      unfold Sp at h2'
      exact ⟨by omega, h2, (rows_some_iff r _ (by omega) (by omega)).1 h4⟩
    · rintro ⟨h3, h2, h4⟩
      have h2' := h2
      unfold Sp at h2'
      exact ⟨h2, (rows_some_iff r _ (by omega) (by omega)).2 h4⟩
theorem refRight_F {l : Sps} (hl : l.length < 9223372036854775807) {k : Nat} (hk : l.length < k) : ref05_Right.F k l = some (decide (RightB l)) := by
  unfold ref05_Right.F ref05_rows.F
  have h := rows_at hl k k 0 (Nat.zero_le _) (by omega)
  simp only [if_true, List.drop_zero] at h
  rw [show ((0 : Nat) : Int) = 0 from rfl] at h
  rw [h]
  have e : rowsGo none l = decide (Rise 0 l) := by rw [Bool.eq_iff_iff, rows_iff, decide_eq_true_eq]
  rw [e]
  unfold RightB
  by_cases h1 : Rise 0 l <;> by_cases h2 : l.length ≤ 256
  · rw [decide_eq_true (by omega : (l.length : Int) ≤ 256)]; simp [h1, h2]
  · rw [decide_eq_false (by omega : ¬ (l.length : Int) ≤ 256)]; simp [h1, h2]
  · rw [decide_eq_true (by omega : (l.length : Int) ≤ 256)]; simp [h1, h2]
  · rw [decide_eq_false (by omega : ¬ (l.length : Int) ≤ 256)]; simp [h1, h2]
def countGo : Int → Sps → Int
  | n, [] => n
  | n, x :: r => countGo (IntKind.i64.wrap (n + IntKind.i64.wrap (IntKind.i64.wrap (x.2 - x.1) + 1))) r
def countF (l : Sps) : Int := if RightB l then countGo 0 l else 0
theorem count_go : ∀ (l : Sps) (n : Int), foldE (fun (n : Int) (x : Int × Int) => (some (.inl (IntKind.i64.wrap (n + IntKind.i64.wrap (IntKind.i64.wrap (x.2 - x.1) + 1)))) : Option (Sum Int Int))) some l n = some (countGo n l)
  | [], n => rfl
  | x :: r, n => by simp only [foldE, countGo, Option.bind_some]; exact count_go r _
theorem count_F {l : Sps} (hl : l.length < 9223372036854775807) {k : Nat} (hk : l.length < k) : spans_Count.F k l = some (countF l) := by
  unfold spans_Count.F countF
  rw [right_F hl hk]
  simp only [Option.bind_some]
  by_cases h : RightB l
  · rw [decide_eq_true h, if_pos h]
    simp only [cond_true]
    rw [← count_go l 0]
    refine iter_idx l (spans_Count.s1 k l) (fun j (m : Int) => (m, (j : Int))) _ _ (fun j m x hx hj => ?_) (fun m => ?_) k 0 hk
    · have hw : IntKind.i64.wrap ((j : Int) + 1) = ((j + 1 : Nat) : Int) := by rw [wrap_in _ (by omega) (by omega)]; omega
      have hlt : decide ((j : Int) < (l.length : Int)) = true := decide_eq_true (by omega)
      simp only [spans_Count.s1, hlt, cond_true, getI_nat, hx, Option.bind_some, hw, Option.map_some, step_inl]
    · have hlt : decide ((l.length : Int) < (l.length : Int)) = false := decide_eq_false (by omega)
      simp only [spans_Count.s1, hlt, cond_false, Option.map_some]
  · rw [decide_eq_false h, if_neg h]; rfl
theorem refCount_F {l : Sps} (hl : l.length < 9223372036854775807) {k : Nat} (hk : l.length < k) : ref05_Count.F k l = some (countF l) := by
  unfold ref05_Count.F countF
  rw [refRight_F hl hk]
  simp only [Option.bind_some]
  by_cases h : RightB l
  · rw [decide_eq_true h, if_pos h]
    simp only [cond_true]
    rw [← count_go l 0]
    refine iter_idx l (ref05_Count.s1 k l) (fun j (m : Int) => (m, (j : Int))) _ _ (fun j m x hx hj => ?_) (fun m => ?_) k 0 hk
    · have hw : IntKind.i64.wrap ((j : Int) + 1) = ((j + 1 : Nat) : Int) := by rw [wrap_in _ (by omega) (by omega)]; omega
      have hlt : decide ((j : Int) < (l.length : Int)) = true := decide_eq_true (by omega)
      simp only [ref05_Count.s1, hlt, cond_true, getI_nat, hx, Option.bind_some, hw, Option.map_some, step_inl]
    · have hlt : decide ((l.length : Int) < (l.length : Int)) = false := decide_eq_false (by omega)
      simp only [ref05_Count.s1, hlt, cond_false, Option.map_some]
  · rw [decide_eq_false h, if_neg h]; rfl
end Go.Proofs.Ytnfaneojdfjepaa.X
