/- Spans, in plain words: slices.Concat; how a set is cut by a span. -/
import Derived.Test.YtnfaneojdfjepaaSq2
namespace Go.Proofs.Ytnfaneojdfjepaa.X
open Go Go.RowKit Go.Proofs.YtnfaneojdfjepaaW.Rx
set_option linter.unusedVariables false
set_option linter.unusedSimpArgs false
theorem same_at (l m : Sps) (hl : l.length < 9223372036854775807) (he : l.length = m.length) (k : Nat) : ∀ (q j : Nat), j ≤ l.length → l.length - j < q → iter (ref05_Same.s0 k l m) q (j : Int) = some (decide (l.drop j = m.drop j)) := by
  intro q
  induction q with
  | zero => intro j _ h; omega
  | succ q ih =>
    intro j hj hq
    simp only [iter]
    rcases Nat.lt_or_ge j l.length with h | h
    · have hw : IntKind.i64.wrap ((j : Int) + 1) = ((j + 1 : Nat) : Int) := by rw [wrap_in _ (by omega) (by omega)]; omega
      have hlt : decide ((j : Int) < (l.length : Int)) = true := decide_eq_true (by omega)
      have h' : j < m.length := by omega
      simp only [ref05_Same.s0, hlt, cond_true, getI_nat, List.getElem?_eq_getElem h, List.getElem?_eq_getElem h', Option.bind_some, hw, Bool.and_true]
      have e : (l.drop j = m.drop j) = (l[j] = m[j] ∧ l.drop (j + 1) = m.drop (j + 1)) := by
        rw [List.drop_eq_getElem_cons h, List.drop_eq_getElem_cons h', List.cons.injEq]
      simp only [e]
      by_cases hx : l[j] = m[j]
      · rw [hx]
        simp only [BEq.rfl, Bool.and_self, Bool.not_true, cond_false, Option.bind_some]
        rw [ih (j + 1) h (by omega)]
        simp only [true_and]
      · have : (l[j].1 == m[j].1 && l[j].2 == m[j].2) = false := by
          cases hb : (l[j].1 == m[j].1 && l[j].2 == m[j].2) with
          | false => rfl
          | true =>
            rw [Bool.and_eq_true, beq_iff_eq, beq_iff_eq] at hb
            exact absurd (Prod.ext hb.1 hb.2) hx
        rw [this]
        simp [hx]
    · have : j = l.length := by omega
      subst this
      have hlt : decide ((l.length : Int) < (l.length : Int)) = false := decide_eq_false (by omega)
      simp only [ref05_Same.s0, hlt, cond_false, Option.bind_some]
      rw [List.drop_length, he, List.drop_length]; rfl
theorem same_F {l m : Sps} (hl : l.length < 9223372036854775807) {k : Nat} (hk : l.length < k) : ref05_Same.F k l m = some (decide (l = m)) := by
  unfold ref05_Same.F
  by_cases he : l.length = m.length
  · have e1 : (((l.length : Nat) : Int) != ((m.length : Nat) : Int)) = false := by rw [he]; simp
    rw [e1]
    have := same_at l m hl he k k 0 (Nat.zero_le _) (by omega)
    simpa using this
  · have e1 : (((l.length : Nat) : Int) != ((m.length : Nat) : Int)) = true := by
      rw [bne_iff_ne]; omega
    rw [e1]
    have : l ≠ m := fun h => he (by rw [h])
    simp [this]
theorem concat3_F (a b c : Sps) (k : Nat) (hk : 4 ≤ k) (h : (a.length + b.length + c.length) * 16 ≤ 140737488355328) : slices_Concat_api_Span_api_Span.F k [a, b, c] = some (a ++ b ++ c) := by
  obtain ⟨k, rfl⟩ : ∃ m, k = m + 4 := ⟨k - 4, by omega⟩
  have g0 : getI [a, b, c] 0 = some a := rfl
  have g1 : getI [a, b, c] 1 = some b := rfl
  have g2 : getI [a, b, c] 2 = some c := rfl
  have w1 : IntKind.i64.wrap ((0 : Int) + 1) = 1 := by decide
  have w2 : IntKind.i64.wrap ((1 : Int) + 1) = 2 := by decide
  have w3 : IntKind.i64.wrap ((2 : Int) + 1) = 3 := by decide
  have l3 : (((([a, b, c] : List Sps).length : Nat) : Int)) = 3 := rfl
  have d0 : decide ((0 : Int) < 3) = true := rfl
  have d1 : decide ((1 : Int) < 3) = true := rfl
  have d2 : decide ((2 : Int) < 3) = true := rfl
  have d3 : decide ((3 : Int) < 3) = false := rfl
  have s1 : IntKind.i64.wrap ((0 : Int) + (a.length : Int)) = (a.length : Int) := by rw [wrap_in _ (by omega) (by omega)]; omega
  have s2 : IntKind.i64.wrap ((a.length : Int) + (b.length : Int)) = (a.length : Int) + b.length := by rw [wrap_in _ (by omega) (by omega)]
  have s3 : IntKind.i64.wrap ((a.length : Int) + b.length + (c.length : Int)) = (a.length : Int) + b.length + c.length := by rw [wrap_in _ (by omega) (by omega)]
  have n1 : decide ((a.length : Int) < 0) = false := decide_eq_false (by omega)
  have n2 : decide ((a.length : Int) + b.length < 0) = false := decide_eq_false (by omega)
  have n3 : decide ((a.length : Int) + b.length + c.length < 0) = false := decide_eq_false (by omega)
  have hg : slices_Grow_api_Span_api_Span.F (k + 4) ((a.length : Int) + b.length + c.length) = some [] := by
    unfold slices_Grow_api_Span_api_Span.F
    rw [decide_eq_true (by omega)]; rfl
  have q1 : decide ((([] : Sps).length + a.length) * 16 ≤ 140737488355328) = true := decide_eq_true (by simp only [List.length_nil]; omega)
  have q2 : decide ((a.length + b.length) * 16 ≤ 140737488355328) = true := decide_eq_true (by omega)
  have q3 : decide (((a ++ b).length + c.length) * 16 ≤ 140737488355328) = true := decide_eq_true (by rw [List.length_append]; omega)
  simp only [slices_Concat_api_Span_api_Span.F, iter, slices_Concat_api_Span_api_Span.s0, slices_Concat_api_Span_api_Span.s2, l3, d0, d1, d2, d3, cond_true, cond_false, g0, g1, g2, Option.bind_some, s1, s2, s3, n1, n2, n3, w1, w2, w3, hg, q1, q2, q3, List.nil_append]
/-- What lies below a span (with a number between), what touches it, what lies above. -/
structure Cut (a b : Int) (A B C : Sps) : Prop where
  low : ∀ x ∈ A, x.2 < a - 1
  mid : ∀ x ∈ B, a - 1 ≤ x.2 ∧ x.1 - 1 ≤ b
  high : ∀ x ∈ C, b < x.1 - 1
theorem rise_mem {m : Int} : ∀ {l : Sps}, Rise m l → ∀ x ∈ l, m ≤ x.1 ∧ Sp x := fun {l} h x hx => by
  obtain ⟨i, hi, rfl⟩ := List.mem_iff_getElem.1 hx
  exact rise_ge l m h i _ (List.getElem?_eq_getElem hi)
theorem rise_mono {m m' : Int} : ∀ {l : Sps}, Rise m l → m' ≤ m → Rise m' l
  | [], _, _ => trivial
  | x :: r, h, h' => ⟨by have := h.1; omega, h.2⟩
theorem cut_of {a b : Int} (hab : Sp (a, b)) : ∀ (l : Sps) (m : Int), Rise m l → ∃ A B C, l = A ++ B ++ C ∧ Cut a b A B C
  | [], m, _ => ⟨[], [], [], rfl, by simp, by simp, by simp⟩
  | x :: r, m, h => by
    obtain ⟨A, B, C, e, hc⟩ := cut_of hab r _ h.2.2
    have hab' : 0 ≤ a ∧ a ≤ b := ⟨hab.1, hab.2.1⟩
    have hs := h.2.1
    unfold Sp at hs
    have hge := fun y hy => (rise_mem h.2.2 y hy)
    by_cases h1 : x.2 < a - 1
    · exact ⟨x :: A, B, C, by rw [e]; rfl, fun y hy => by
        rcases List.mem_cons.1 hy with rfl | hy
        · exact h1
        · exact hc.low y hy, hc.mid, hc.high⟩
    have hA : A = [] := by
      cases A with
      | nil => rfl
      | cons y A =>
        have hy := hge y (by rw [e]; simp)
        have h2 := hc.low y (by simp)
        have h3 := hy.2
        unfold Sp at h3
        omega
    subst hA
    by_cases h2 : x.1 - 1 ≤ b
    · exact ⟨[], x :: B, C, by rw [e]; rfl, by simp, fun y hy => by
        rcases List.mem_cons.1 hy with rfl | hy
        · exact ⟨by omega, h2⟩
        · exact hc.mid y hy, hc.high⟩
    have hB : B = [] := by
      cases B with
      | nil => rfl
      | cons y B =>
        have hy := hge y (by rw [e]; simp)
        have h3 := hc.mid y (by simp)
        omega
    subst hB
    exact ⟨[], [], x :: C, by rw [e]; rfl, by simp, by simp, fun y hy => by
      rcases List.mem_cons.1 hy with rfl | hy
      · omega
      · exact hc.high y hy⟩
theorem firstIx_app {p : Int × Int → Bool} {A R : Sps} (hA : ∀ x ∈ A, p x = false) (hR : ∀ x ∈ R, p x = true) : firstIx p (A ++ R) = A.length := by
  induction A with
  | nil =>
    cases R with
    | nil => rfl
    | cons y R => simp only [List.nil_append, firstIx, hR y (by simp), if_true]; rfl
  | cons x A ih =>
    simp only [List.cons_append, firstIx, hA x (by simp), List.length_cons]
    rw [ih (fun y hy => hA y (by simp [hy]))]; rfl
theorem cut_low {a b : Int} {A B C : Sps} (hab : Sp (a, b)) (hc : Cut a b A B C) (hs : ∀ x ∈ A ++ B ++ C, Sp x) : firstIx (p38 a) (A ++ B ++ C) = A.length := by
  have hab' : 0 ≤ a ∧ a ≤ b ∧ b ≤ 4611686018427387903 := hab
  rw [List.append_assoc]
  refine firstIx_app (fun x hx => ?_) (fun x hx => ?_)
  · have := hc.low x hx
    unfold p38
    rw [wrap_in _ (by omega) (by omega)]
    exact decide_eq_false (by omega)
  · unfold p38
    rw [wrap_in _ (by omega) (by omega)]
    refine decide_eq_true ?_
    rcases List.mem_append.1 hx with h | h
    · exact (hc.mid x h).1
    · have h1 := hc.high x h
      have h2 := hs x (by simp [h])
      unfold Sp at h2
      omega
theorem cut_high {a b : Int} {A B C : Sps} (hab : Sp (a, b)) (hc : Cut a b A B C) (hs : ∀ x ∈ A ++ B ++ C, Sp x) : firstIx (p39 b) (A ++ B ++ C) = (A ++ B).length := by
  have hab' : 0 ≤ a ∧ a ≤ b ∧ b ≤ 4611686018427387903 := hab
  have hw : ∀ x ∈ A ++ B ++ C, IntKind.i64.wrap (x.1 - 1) = x.1 - 1 := fun x hx => by
    have := hs x hx
    unfold Sp at this
    exact wrap_in _ (by omega) (by omega)
  refine firstIx_app (fun x hx => ?_) (fun x hx => ?_)
  · unfold p39
    rw [hw x (by simp only [List.mem_append] at hx ⊢; exact Or.inl hx)]
    refine decide_eq_false ?_
    rcases List.mem_append.1 hx with h | h
    · have h1 := hc.low x h
      have h2 := hs x (by simp [h])
      unfold Sp at h2
      omega
    · have := (hc.mid x h).2; omega
  · have := hc.high x hx
    unfold p39
    rw [hw x (by simp [hx])]
    exact decide_eq_true this
end Go.Proofs.Ytnfaneojdfjepaa.X
