/- Reasm: in plain words: what is read of a stream. -/
import Derived.Test.YtdjeadgebcndeaaRl0
namespace Go.Proofs.Ytdjeadgebcndeaa.X
open Go Go.Proofs.YtdjeadgebcndeaaW.Rx
set_option linter.unusedVariables false
set_option linter.unusedSimpArgs false
abbrev Sp := Int × Int
def Mem (o : Int) (l : List Sp) : Prop := ∃ x ∈ l, x.1 ≤ o ∧ o ≤ x.2
structure Rt (b : Int) (l : List Sp) : Prop where
  lo : ∀ x ∈ l, b ≤ x.1 ∧ x.1 ≤ x.2
  pw : l.Pairwise fun x y => x.2 + 1 < y.1
theorem Rt.nil (b : Int) : Rt b [] := ⟨fun x h => (by cases h), List.Pairwise.nil⟩
theorem Rt.tail {b : Int} {x : Sp} {r : List Sp} (h : Rt b (x :: r)) : Rt (x.2 + 2) r := by
  obtain ⟨h1, h2⟩ := List.pairwise_cons.1 h.pw
  exact ⟨fun y hy => ⟨by have := h1 y hy; omega, (h.lo y (List.mem_cons_of_mem _ hy)).2⟩, h2⟩
theorem Rt.mono {b c : Int} {l : List Sp} (h : Rt b l) (hc : c ≤ b) : Rt c l := ⟨fun x hx => ⟨by have := h.lo x hx; omega, (h.lo x hx).2⟩, h.pw⟩
def held : List Sp → Int
  | [] => 0
  | x :: r => x.2 - x.1 + 1 + held r
theorem held_le {B : Int} : ∀ (l : List Sp) (b : Int), Rt b l → b ≤ B → (∀ x ∈ l, x.2 < B) → held l ≤ B - b
  | [], b, h, hb, hu => by simp only [held]; omega
  | x :: r, b, h, hb, hu => by
    have h1 := h.lo x (List.mem_cons_self ..)
    have h2 := hu x (List.mem_cons_self ..)
    have := held_le r (x.2 + 1) (h.tail.mono (by omega)) (by omega) (fun y hy => hu y (List.mem_cons_of_mem _ hy))
    simp only [held]; omega
theorem held_len : ∀ (l : List Sp) (b : Int), Rt b l → (l.length : Int) ≤ held l
  | [], b, h => by simp [held]
  | x :: r, b, h => by
    have h1 := h.lo x (List.mem_cons_self ..)
    have := held_len r _ h.tail
    simp only [held, List.length_cons]; omega
theorem held_nn (l : List Sp) (b : Int) (h : Rt b l) : 0 ≤ held l := by have := held_len l b h; omega
/-- A stream that may be. -/
structure Good (W : Int) (q : Stm) : Prop where
  w : q.1 = W
  w1 : 1 ≤ W
  w2 : W ≤ 4096
  a0 : 0 ≤ q.2.1
  a1 : q.2.1 ≤ 4611686018427387903
  row : (q.2.2.1.length : Int) = W
  rt : Rt q.2.1 q.2.2.2.1
  up : ∀ x ∈ q.2.2.2.1, x.2 < q.2.1 + W ∧ x.2 < 4611686018427387903
  en : q.2.2.2.2.2.1 = true → 0 ≤ q.2.2.2.2.1 ∧ q.2.2.2.2.1 ≤ 4611686018427387903 ∧ q.2.1 ≤ q.2.2.2.2.1 ∧ ∀ x ∈ q.2.2.2.1, x.2 < q.2.2.2.2.1
  br : q.2.2.2.2.2.2 = true → q.2.2.2.2.2.1 = true ∧ q.2.2.2.1 = []
theorem Good.held {W : Int} {q : Stm} (h : Good W q) : held q.2.2.2.1 ≤ W := by
  have := held_le (B := q.2.1 + W) q.2.2.2.1 q.2.1 h.rt (by have := h.w1; omega) (fun x hx => (h.up x hx).1)
  omega
theorem Good.len {W : Int} {q : Stm} (h : Good W q) : q.2.2.2.1.length ≤ 4096 := by
  have := h.held; have := held_len _ _ h.rt; have := h.w2; omega
section
variable {W : Int} {q : Stm} (k : Nat) (h : Good W q)
include h
theorem ok_F : reasm_Stream_ok.F k (some q) = some true := by
  unfold reasm_Stream_ok.F
  have : decide (0 < q.1) = true := decide_eq_true (by have := h.w; have := h.w1; omega)
  simp [this]
theorem limit_F : reasm_Stream_Limit.F k (some q) = some (q.2.1 + W) := by
  unfold reasm_Stream_Limit.F
  rw [ok_F k h]
  have := h.a0; have := h.a1; have := h.w1; have := h.w2
  simp only [Option.bind_some, cond_true, h.w]
  rw [wrap_in _ (by omega) (by omega)]
theorem at_F : reasm_Stream_At.F k (some q) = some q.2.1 := by
  unfold reasm_Stream_At.F
  rw [ok_F k h]; rfl
theorem end_F : reasm_Stream_End.F k (some q) = some (q.2.2.2.2.1, q.2.2.2.2.2.1) := by
  unfold reasm_Stream_End.F
  rw [ok_F k h]
  simp only [Option.bind_some, cond_true]
  cases q.2.2.2.2.2.1 <;> rfl
theorem broken_F : reasm_Stream_Broken.F k (some q) = some q.2.2.2.2.2.2 := by
  unfold reasm_Stream_Broken.F
  rw [ok_F k h]
  simp only [Option.bind_some, cond_true]
  cases q.2.2.2.2.2.2 <;> rfl
def over (q : Stm) : Bool := q.2.2.2.2.2.2 || (q.2.2.2.2.2.1 && q.2.1 == q.2.2.2.2.1)
theorem over_F : reasm_Stream_Over.F k (some q) = some (over q) := by
  unfold reasm_Stream_Over.F over
  rw [ok_F k h]
  simp only [Option.bind_some, cond_true]
  cases q.2.2.2.2.2.2 <;> cases q.2.2.2.2.2.1 <;> cases (q.2.1 == q.2.2.2.2.1) <;> rfl
def lastOf (a : Int) (l : List Sp) : Int := match l.getLast? with
  | none => a
  | some x => x.2 + 1
theorem last_F : reasm_Stream_last.F k (some q) = some (lastOf q.2.1 q.2.2.2.1) := by
  unfold reasm_Stream_last.F lastOf
  simp only [Option.bind_some]
  have hl := h.len
  cases hc : q.2.2.2.1 with
  | nil => simp
  | cons x r =>
    rw [hc] at hl
    have e1 : (((((x :: r).length : Nat) : Int)) == 0) = false := by simp; omega
    rw [e1]
    simp only [cond_false]
    rw [wrap_in _ (by simp only [List.length_cons]; omega) (by simp only [List.length_cons] at hl ⊢; omega)]
    have e2 : getI (x :: r) ((((x :: r).length : Nat) : Int) - 1) = (x :: r).getLast? := by
      rw [List.getLast?_eq_getElem?]
      have : ((((x :: r).length : Nat) : Int) - 1) = (((x :: r).length - 1 : Nat) : Int) := by simp only [List.length_cons]; omega
      rw [this, getI_nat]
    rw [e2]
    cases hg : (x :: r).getLast? with
    | none => simp at hg
    | some y =>
      have hy : y ∈ q.2.2.2.1 := by rw [hc]; exact List.mem_of_getLast? hg
      have h1 := h.up y hy
      have h2 := h.rt.lo y hy
      have := h.a0
      simp only [Option.bind_some]
      rw [wrap_in _ (by omega) (by omega)]
theorem lastOf_le {B : Int} (hB : q.2.1 ≤ B) : lastOf q.2.1 q.2.2.2.1 ≤ B ↔ ∀ x ∈ q.2.2.2.1, x.2 < B := by
  unfold lastOf
  cases hg : q.2.2.2.1.getLast? with
  | none =>
    rw [List.getLast?_eq_none_iff] at hg
    rw [hg]; simp [hB]
  | some y =>
    obtain ⟨ys, hys⟩ := List.getLast?_eq_some_iff.1 hg
    constructor
    · intro hy x hx
      dsimp only at hy
      rw [hys] at hx
      rcases List.mem_append.1 hx with hx | hx
      · have hp := h.rt.pw
        rw [hys, List.pairwise_append] at hp
        have h1 := hp.2.2 x hx y (by simp)
        have h2 := h.rt.lo y (by rw [hys]; simp)
        omega
      · obtain rfl := List.mem_singleton.1 hx; omega
    · intro hy
      have := hy y (by rw [hys]; simp)
      dsimp only; omega
def readyOf (a : Int) : List Sp → Int
  | [] => 0
  | x :: _ => if a < x.1 then 0 else x.2 + 1 - a
theorem ready_F : reasm_Stream_Ready.F k (some q) = some (readyOf q.2.1 q.2.2.2.1) := by
  unfold reasm_Stream_Ready.F
  rw [ok_F k h]
  simp only [Option.bind_some, cond_true]
  cases hc : q.2.2.2.1 with
  | nil => simp [readyOf]
  | cons x r =>
    have e1 : (((((x :: r).length : Nat) : Int)) == 0) = false := by simp; omega
    rw [e1]
    have hx : x ∈ q.2.2.2.1 := by rw [hc]; exact List.mem_cons_self ..
    have h1 := h.up x hx
    have h2 := h.rt.lo x hx
    have := h.a0; have := h.a1
    have e2 : getI (x :: r) 0 = some x := rfl
    simp only [cond_false, e2, Option.bind_some, readyOf]
    by_cases hlt : q.2.1 < x.1
    · simp [hlt]
    · rw [decide_eq_false hlt, if_neg hlt]
      simp only [cond_false]
      rw [wrap_in (x.2 + 1) (by omega) (by omega), wrap_in _ (by omega) (by omega)]
theorem held_F (hk : 4096 < k) : reasm_Stream_Held.F k (some q) = some (X.held q.2.2.2.1) := by
  unfold reasm_Stream_Held.F
  rw [ok_F k h]
  simp only [Option.bind_some, cond_true]
  have hl := h.len
  have hH := h.held
  have key : ∀ (k' j : Nat) (acc : Int), j ≤ q.2.2.2.1.length → q.2.2.2.1.length - j < k' → 0 ≤ acc → acc + X.held (q.2.2.2.1.drop j) ≤ 4096 → iter (reasm_Stream_Held.s2 k q) k' (acc, (j : Int)) = some (acc + X.held (q.2.2.2.1.drop j)) := by
    intro k'
    induction k' with
    | zero => intro j acc _ h _ _; omega
    | succ k' ih =>
      intro j acc hj hk hacc hs
      simp only [iter]
      have hs2 : reasm_Stream_Held.s2 k q (acc, (j : Int)) = bif decide ((j : Int) < (((q.2.2.2.1).length : Nat) : Int)) then ((getI q.2.2.2.1 (j : Int)).bind fun r8 => some (.inl ((IntKind.wrap IntKind.i64 (acc + IntKind.wrap IntKind.i64 (IntKind.wrap IntKind.i64 (r8.2 - r8.1) + 1)), IntKind.wrap IntKind.i64 ((j : Int) + 1))))) else (some (.inr acc)) := rfl
      rw [hs2]
      rcases Nat.lt_or_ge j q.2.2.2.1.length with hlt | hge
      · rw [decide_eq_true (by omega : (j : Int) < ((q.2.2.2.1.length : Nat) : Int))]
        simp only [cond_true]
        have hx : q.2.2.2.1[j]? = some q.2.2.2.1[j] := List.getElem?_eq_getElem hlt
        rw [getI_nat, hx]
        simp only [Option.bind_some]
        have hm : q.2.2.2.1[j] ∈ q.2.2.2.1 := List.getElem_mem hlt
        rw [List.drop_eq_getElem_cons hlt] at hs ⊢
        generalize q.2.2.2.1[j] = x at hx hm hs ⊢
        have h1 := h.up x hm
        have h2 := h.rt.lo x hm
        have := h.a0; have := h.a1
        have hnn := held_nn (q.2.2.2.1.drop (j + 1)) q.2.1 ⟨fun y hy => h.rt.lo y (List.mem_of_mem_drop hy), h.rt.pw.sublist (List.drop_sublist _ _)⟩
        simp only [X.held] at hs ⊢
        rw [wrap_in (x.2 - x.1) (by omega) (by omega), wrap_in (x.2 - x.1 + 1) (by omega) (by omega), wrap_in (acc + (x.2 - x.1 + 1)) (by omega) (by omega), wrap_in ((j : Int) + 1) (by omega) (by omega)]
        have := ih (j + 1) (acc + (x.2 - x.1 + 1)) hlt (by omega) (by omega) (by omega)
        rw [Int.natCast_add] at this
        rw [show ((1 : Nat) : Int) = 1 from rfl] at this
        rw [this, Int.add_assoc]
      · have : j = q.2.2.2.1.length := by omega
        subst this
        rw [decide_eq_false (by omega)]
        simp [X.held]
  have := key k 0 0 (Nat.zero_le _) (by omega) (Int.le_refl 0) (by rw [List.drop_zero]; have := h.w2; omega)
  simpa using this
end
end Go.Proofs.Ytdjeadgebcndeaa.X
