/- Reasm: in plain words: Reset, Read. -/
import Derived.Test.YtdjeadgebcndeaaRp4
namespace Go.Proofs.Ytdjeadgebcndeaa.X
open Go Go.Proofs.YtdjeadgebcndeaaW.Rx
set_option linter.unusedVariables false
set_option linter.unusedSimpArgs false
/-- What Reset answers, and what stands behind it. -/
structure ResetOK (W : Int) (q : Stm) (n : Int) (q' : Stm) : Prop where
  good : Good W q'
  same : q'.2.1 = q.2.1
  nov : over q = false
  q' : q' = (q.1, q.2.1, q.2.2.1, [], n, true, true)
theorem bne_t {a b : Int} (h : a ≠ b) : (a != b) = true := by simpa using h
theorem bne_f {a b : Int} (h : a = b) : (a != b) = false := by simpa using h
theorem beq_t {a b : Int} (h : a = b) : (a == b) = true := by simpa using h
theorem beq_f {a b : Int} (h : a ≠ b) : (a == b) = false := by simpa using h
section
variable {W : Int} (k : Nat) {q : Stm} (h : Good W q)
include h
theorem ready_le : 0 ≤ readyOf q.2.1 q.2.2.2.1 ∧ readyOf q.2.1 q.2.2.2.1 ≤ X.held q.2.2.2.1 ∧ readyOf q.2.1 q.2.2.2.1 ≤ W := by
  have hH := h.held
  have hw1 := h.w1
  cases hc : q.2.2.2.1 with
  | nil => simp only [readyOf, X.held]; omega
  | cons x r =>
    have hx : x ∈ q.2.2.2.1 := by rw [hc]; exact List.mem_cons_self ..
    have h1 := h.rt.lo x hx
    have h2 := h.up x hx
    have h3 := held_nn r (x.2 + 2) (by have := h.rt; rw [hc] at this; exact this.tail)
    simp only [readyOf, X.held]
    split
    · omega
    · omega
theorem reset_F {n : Int} : ∃ e q', reasm_Stream_Reset.F k q n = some (e, q') ∧ ((e ≠ 0 ∧ q' = q) ∨ (e = 0 ∧ ResetOK W q n q')) := by
  have ha0 := h.a0
  have ha1 := h.a1
  have hw1 := h.w1
  have hw2 := h.w2
  have hr := ready_le h
  have err : ∀ (e : Int) (v : Option (Int × Stm)), v = some (e, q) → e ≠ 0 → ∃ e q', v = some (e, q') ∧ ((e ≠ 0 ∧ q' = q) ∨ (e = 0 ∧ ResetOK W q n q')) := fun e v hv he => ⟨e, q, hv, Or.inl ⟨he, rfl⟩⟩
  unfold reasm_Stream_Reset.F
  rw [ok_F k h]
  simp only [Option.bind_some, cond_true]
  by_cases h1 : n < 0
  · exact err 1 _ (by rw [decide_eq_true h1]; rfl) (by decide)
  by_cases h2 : 4611686018427387903 < n
  · exact err 1 _ (by rw [decide_eq_false h1, decide_eq_true h2]; rfl) (by decide)
  rw [decide_eq_false h1, decide_eq_false h2]
  simp only [cond_false]
  cases hbr : q.2.2.2.2.2.2 with
  | true => exact err 18 _ rfl (by decide)
  | false =>
  have hR : IntKind.wrap IntKind.i64 (q.2.1 + readyOf q.2.1 q.2.2.2.1) = q.2.1 + readyOf q.2.1 q.2.2.2.1 := wrap_in _ (by omega) (by omega)
  simp only [cond_false, limit_F k h, ready_F k h, last_F k h, Option.bind_some, hR]
  have ok : over q = false → q.2.1 ≤ n → ResetOK W q n (q.1, q.2.1, q.2.2.1, [], n, true, true) := fun ho hn => ⟨⟨h.w, hw1, hw2, ha0, ha1, h.row, Rt.nil _, fun x hx => (by cases hx), fun _ => ⟨by dsimp only; omega, by dsimp only; omega, hn, fun x hx => (by cases hx)⟩, fun _ => ⟨rfl, rfl⟩⟩, rfl, ho, rfl⟩
  have hlo : ∀ B, lastOf q.2.1 q.2.2.2.1 ≤ B → q.2.1 ≤ B := fun B hB => by
    have : q.2.1 ≤ lastOf q.2.1 q.2.2.2.1 := by
      unfold lastOf
      cases hg : q.2.2.2.1.getLast? with
      | none => exact Int.le_refl _
      | some y =>
        have := h.rt.lo y (List.mem_of_getLast? hg)
        dsimp only; omega
    omega
  cases hkn : q.2.2.2.2.2.1 with
  | true =>
    simp only [cond_true]
    by_cases h3 : q.2.1 + readyOf q.2.1 q.2.2.2.1 = q.2.2.2.2.1
    · exact err 18 _ (by rw [beq_t h3]; rfl) (by decide)
    rw [beq_f h3]
    simp only [cond_false]
    by_cases h4 : q.2.1 + W < n
    · exact err 7 _ (by rw [decide_eq_true h4]; rfl) (by decide)
    rw [decide_eq_false h4]
    simp only [cond_false]
    by_cases h5 : q.2.2.2.2.1 = n
    · rw [bne_f h5]
      simp only [cond_false]
      by_cases h6 : n < lastOf q.2.1 q.2.2.2.1
      · exact err 8 _ (by rw [decide_eq_true h6]; rfl) (by decide)
      · rw [decide_eq_false h6]
        refine ⟨0, _, rfl, Or.inr ⟨rfl, ok ?_ (hlo n (by omega))⟩⟩
        unfold over
        rw [hbr, hkn]
        have hne : q.2.1 ≠ q.2.2.2.2.1 := fun he => by
          have hrd : readyOf q.2.1 q.2.2.2.1 = 0 := by
            cases hc : q.2.2.2.1 with
            | nil => rfl
            | cons x r =>
              have hx : x ∈ q.2.2.2.1 := by rw [hc]; exact List.mem_cons_self ..
              have g1 := h.rt.lo x hx
              have g2 := (h.en hkn).2.2.2 x hx
              omega
          rw [hrd] at h3; omega
        simp [hne]
    · exact err 8 _ (by rw [bne_t h5]; rfl) (by decide)
  | false =>
    simp only [cond_false]
    by_cases h4 : q.2.1 + W < n
    · exact err 7 _ (by rw [decide_eq_true h4]; rfl) (by decide)
    rw [decide_eq_false h4]
    simp only [cond_false]
    by_cases h6 : n < lastOf q.2.1 q.2.2.2.1
    · exact err 8 _ (by rw [decide_eq_true h6]; rfl) (by decide)
    · rw [decide_eq_false h6]
      refine ⟨0, _, rfl, Or.inr ⟨rfl, ok ?_ (hlo n (by omega))⟩⟩
      unfold over
      rw [hbr, hkn]; rfl
/-- What is read, and what stands behind it. -/
structure ReadOK (W : Int) (q : Stm) (n : Int) (out : List Int) (q' : Stm) : Prop where
  good : Good W q'
  at' : q'.2.1 = q.2.1 + out.length
  len : (out.length : Int) = (if readyOf q.2.1 q.2.2.2.1 < n then readyOf q.2.1 q.2.2.2.1 else n) ∨ out = []
  full : readyOf q.2.1 q.2.2.2.1 ≤ n → (out.length : Int) = readyOf q.2.1 q.2.2.2.1
  le : (out.length : Int) ≤ readyOf q.2.1 q.2.2.2.1
  len2 : out = [] ∨ (out.length : Int) ≤ n
  en : q'.2.2.2.2 = q.2.2.2.2
  mem : ∀ o, Mem o q'.2.2.2.1 ↔ Mem o q.2.2.2.1 ∧ q.2.1 + out.length ≤ o
  row : ∀ (txt : Int → Int), Holds txt q.2.1 q.2.2.1 (fun o => Mem o q.2.2.2.1) → Holds txt q'.2.1 q'.2.2.1 (fun o => Mem o q'.2.2.2.1) ∧ ∀ i x, out[i]? = some x → x = txt (q.2.1 + (i : Nat))
theorem read_F {n : Int} : ∃ out q', reasm_Stream_Read.F k q n = some (out, q') ∧ ReadOK W q n out q' := by
  have ha0 := h.a0
  have ha1 := h.a1
  have hw1 := h.w1
  have hw2 := h.w2
  have hrow := h.row
  have hr := ready_le h
  unfold reasm_Stream_Read.F
  rw [ready_F k h]
  simp only [Option.bind_some]
  obtain ⟨v, hv⟩ : ∃ v, v = (if readyOf q.2.1 q.2.2.2.1 < n then readyOf q.2.1 q.2.2.2.1 else n) := ⟨_, rfl⟩
  have hv1 : v ≤ readyOf q.2.1 q.2.2.2.1 ∧ v ≤ n ∧ (v = readyOf q.2.1 q.2.2.2.1 ∨ v = n) := by rw [hv]; split <;> omega
  rw [← hv]
  by_cases h1 : v < 1
  · rw [decide_eq_true h1]
    refine ⟨[], q, rfl, ⟨h, by simp, Or.inr rfl, fun hh => by simp only [List.length_nil]; rcases hv1.2.2 with e | e <;> omega, by simp only [List.length_nil]; omega, Or.inl rfl, rfl, fun o => ⟨fun ho => ⟨ho, ?_⟩, fun ho => ho.1⟩, fun txt hS => ⟨hS, fun i x hx => by simp at hx⟩⟩⟩
    obtain ⟨x, hx, hxo⟩ := ho
    have := h.rt.lo x hx
    simp only [List.length_nil]; omega
  rw [decide_eq_false h1]
  simp only [cond_false]
  cases hc : q.2.2.2.1 with
  | nil => rw [hc] at hv1 hr; simp only [readyOf] at hv1; omega
  | cons x r =>
  have hx : x ∈ q.2.2.2.1 := by rw [hc]; exact List.mem_cons_self ..
  have g1 := h.rt.lo x hx
  have g2 := h.up x hx
  have hrt := h.rt
  rw [hc] at hrt hv1 hr
  have hxa : x.1 = q.2.1 := by
    simp only [readyOf] at hv1
    split at hv1 <;> omega
  have hrd : readyOf q.2.1 (x :: r) = x.2 + 1 - q.2.1 := by simp only [readyOf]; rw [if_neg (by omega)]
  rw [hrd] at hv1 hr
  obtain ⟨u, hu⟩ : ∃ u : Nat, v = u := ⟨v.toNat, by omega⟩
  obtain ⟨a', ha'⟩ : ∃ a', a' = q.2.1 + v := ⟨_, rfl⟩
  have c1 : decide ((0 : Int) ≤ (0 : Int) ∧ (0 : Int) ≤ v ∧ v ≤ ((q.2.2.1).length : Int)) = true := decide_eq_true ⟨Int.le_refl _, by omega, by omega⟩
  have c2 : decide ((0 : Int) ≤ v ∧ v ≤ ((((q.2.2.1).length : Nat) : Int)) ∧ ((((q.2.2.1).length : Nat) : Int)) ≤ ((q.2.2.1).length : Int)) = true := decide_eq_true ⟨by omega, by omega, Int.le_refl _⟩
  have hA : IntKind.wrap IntKind.i64 (q.2.1 + v) = a' := by rw [ha']; exact wrap_in _ (by omega) (by omega)
  have hcl : slices_Clone_byte_byte.F k (((q.2.2.1.drop (Int.toNat 0)).take (Int.toNat v - Int.toNat 0))) = some (q.2.2.1.take u) := by
    have e : ((q.2.2.1.drop (Int.toNat 0)).take (Int.toNat v - Int.toNat 0)) = q.2.2.1.take u := by rw [hu]; simp
    rw [e]
    unfold slices_Clone_byte_byte.F
    rw [decide_eq_true (by rw [List.length_take]; omega)]; rfl
  have e0 : getI (x :: r) 0 = some x := rfl
  have e1 : getI ((a', x.2) :: r) 0 = some (a', x.2) := rfl
  have e2 : (x :: r).set (Int.toNat 0) (a', x.2) = (a', x.2) :: r := rfl
  simp only [c1, cond_true, hcl, Option.bind_some, c2, e0, hA, e1, e2]
  have hlt : (q.2.2.1.take u).length = u := by rw [List.length_take]; omega
  obtain ⟨row', hrow'⟩ : ∃ row', row' = cop 0 q.2.2.1 ((q.2.2.1.drop v.toNat).take (((q.2.2.1.length : Nat) : Int).toNat - v.toNat)) := ⟨_, rfl⟩
  have hsrc : ((q.2.2.1.drop v.toNat).take (((q.2.2.1.length : Nat) : Int).toNat - v.toNat)) = q.2.2.1.drop u := by
    rw [hu, Int.toNat_natCast, Int.toNat_natCast]
    exact List.take_of_length_le (by rw [List.length_drop]; exact Nat.le_refl _)
  have hrl : row'.length = q.2.2.1.length := by rw [hrow']; exact cop_len (Nat.zero_le _)
  have hrg : ∀ i, i + u < q.2.2.1.length → row'[i]? = q.2.2.1[i + u]? := fun i hi => by
    rw [hrow', hsrc, cop_get _ _ _ _ (by rw [List.length_drop]; omega), if_pos ⟨Nat.zero_le _, by rw [List.length_drop]; omega⟩, List.getElem?_drop, Nat.sub_zero, Nat.add_comm]
  rw [← hrow']
  have fin : ∀ r' : List Sp, Rt a' r' → (∀ o, Mem o r' ↔ Mem o (x :: r) ∧ a' ≤ o) → ReadOK W q n (q.2.2.1.take u) (q.1, a', row', r', q.2.2.2.2.1, q.2.2.2.2.2.1, q.2.2.2.2.2.2) := fun r' hr' hm' => by
    have hsub : ∀ y ∈ r', ∃ z ∈ x :: r, y.2 ≤ z.2 := fun y hy => by
      obtain ⟨z, hz, hzo⟩ := ((hm' y.2).1 ⟨y, hy, (hr'.lo y hy).2, Int.le_refl _⟩).1
      exact ⟨z, hz, hzo.2⟩
    refine ⟨⟨h.w, hw1, hw2, by dsimp only; omega, by dsimp only; omega, by dsimp only; omega, hr', fun y hy => ?_, fun hkn => ?_, fun hbr => ?_⟩, by dsimp only; rw [hlt, ha', hu], Or.inl (by rw [hlt, ← hu]; exact hv), fun hh => by rw [hc, hrd] at hh ⊢; rw [hlt]; rcases hv1.2.2 with e | e <;> omega, by rw [hc, hrd, hlt]; omega, Or.inr (by rw [hlt]; omega), rfl, fun o => ?_, fun txt hS => ⟨?_, ?_⟩⟩
    · obtain ⟨z, hz, hzo⟩ := hsub y hy
      have := h.up z (by rw [hc]; exact hz)
      dsimp only; omega
    · obtain ⟨q1, q2, q3, q4⟩ := h.en hkn
      have := q4 x (by rw [hc]; exact List.mem_cons_self ..)
      refine ⟨q1, q2, by dsimp only; omega, fun y hy => ?_⟩
      obtain ⟨z, hz, hzo⟩ := hsub y hy
      have := q4 z (by rw [hc]; exact hz)
      dsimp only; omega
    · have := (h.br hbr).2
      rw [hc] at this; cases this
    · rw [hm' o, hc, hlt, ha', hu]
    · intro o ho h1 h2
      dsimp only at ho h1 h2 ⊢
      rw [hrl] at h2
      obtain ⟨hm, hao⟩ := (hm' o).1 ho
      obtain ⟨z, hz, hzo⟩ := hm
      have := h.up z (by rw [hc]; exact hz)
      rw [hrg _ (by omega)]
      have := hS o (by rw [hc]; exact ⟨z, hz, hzo⟩) (by omega) (by omega)
      rw [← this]; congr 1; omega
    · intro i y hy
      rw [List.getElem?_take] at hy
      split at hy
      · rename_i hi
        have := hS (q.2.1 + (i : Nat)) (by rw [hc]; exact ⟨x, List.mem_cons_self .., by omega, by omega⟩) (by omega) (by omega)
        rw [show (q.2.1 + (i : Nat) - q.2.1).toNat = i by omega, hy] at this
        exact Option.some.inj this
      · cases hy
  by_cases h2 : x.2 < a'
  · rw [decide_eq_true h2]
    simp only [cond_true]
    have c3 : decide ((0 : Int) ≤ (1 : Int) ∧ (1 : Int) ≤ (((((a', x.2) :: r).length : Nat) : Int)) ∧ (((((a', x.2) :: r).length : Nat) : Int)) ≤ ((((a', x.2) :: r).length : Nat) : Int)) = true := decide_eq_true ⟨by decide, by simp only [List.length_cons]; omega, Int.le_refl _⟩
    have e3 : (((a', x.2) :: r).drop (Int.toNat 1)).take (Int.toNat ((((a', x.2) :: r).length : Nat) : Int) - Int.toNat 1) = r := by
      rw [Int.toNat_natCast]; simp
    simp only [c3, cond_true, e3]
    refine ⟨_, _, rfl, fin r (hrt.tail.mono (by omega)) (fun o => ⟨fun ⟨y, hy, hyo⟩ => ⟨⟨y, List.mem_cons_of_mem _ hy, hyo⟩, ?_⟩, fun ⟨⟨y, hy, hyo⟩, hao⟩ => ?_⟩)⟩
    · have := hrt.tail.lo y hy; omega
    · rcases List.mem_cons.1 hy with rfl | hy
      · omega
      · exact ⟨y, hy, hyo⟩
  · rw [decide_eq_false h2]
    simp only [cond_false]
    obtain ⟨p1, p2⟩ := List.pairwise_cons.1 hrt.pw
    refine ⟨_, _, rfl, fin ((a', x.2) :: r) ⟨fun y hy => ?_, List.pairwise_cons.2 ⟨fun y hy => p1 y hy, p2⟩⟩ (fun o => ⟨fun ⟨y, hy, hyo⟩ => ?_, fun ⟨⟨y, hy, hyo⟩, hao⟩ => ?_⟩)⟩
    · rcases List.mem_cons.1 hy with rfl | hy
      · dsimp only; omega
      · have := hrt.tail.lo y hy; omega
    · rcases List.mem_cons.1 hy with rfl | hy
      · dsimp only at hyo
        exact ⟨⟨x, List.mem_cons_self .., by omega, by omega⟩, by omega⟩
      · have := hrt.tail.lo y hy
        exact ⟨⟨y, List.mem_cons_of_mem _ hy, hyo⟩, by omega⟩
    · rcases List.mem_cons.1 hy with rfl | hy
      · exact ⟨(a', y.2), List.mem_cons_self .., by dsimp only; omega, by dsimp only; omega⟩
      · exact ⟨y, List.mem_cons_of_mem _ hy, hyo⟩
end
end Go.Proofs.Ytdjeadgebcndeaa.X
