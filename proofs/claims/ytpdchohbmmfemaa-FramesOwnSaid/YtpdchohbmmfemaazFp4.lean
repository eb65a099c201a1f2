import Derived.Test.YtpdchohbmmfemaazFp3
import Derived.Test.YtpdchohbmmfemaazFv1
import Derived.Test.YtpdchohbmmfemaazFc
import Derived.Test.YtpdchohbmmfemaazFd
import Derived.Test.YtpdchohbmmfemaazFe
namespace Go.Proofs.Ytpdchohbmmfemaa.X
open Go Go.RowKit Go.Proofs.YtpdchohbmmfemaaW.Rx Go.Proofs.Ytpdchohbmmfemaa.Plain Go.Proofs.YtpdchohbmmfemaaW.PrintWords
set_option linter.unusedVariables false
set_option linter.unusedSimpArgs false
set_option linter.unusedSectionVars false
theorem bif_tf (a : Bool) : (bif a then some true else some false) = some a := by cases a <;> rfl
theorem bif_ft (a : Bool) : (bif a then some false else some true) = some (!a) := by cases a <;> rfl
theorem bif_and (a b : Bool) : (bif a then some b else some false) = some (a && b) := by cases a <;> rfl
theorem bif_nd (a b : Bool) : (bif a then some false else some b) = some (!a && b) := by cases a <;> rfl
theorem bif_or (a b : Bool) : (bif a then some true else some b) = some (a || b) := by cases a <;> rfl
theorem bif_imp (a b : Bool) : (bif a then some b else some true) = some (!a || b) := by cases a <;> rfl
theorem bif_no {α : Type} (a : Bool) (x : α) : (bif a then x else x) = x := by cases a <;> rfl
theorem getI_some {α : Type} {l : List α} {j : Nat} {x : α} (h : l[j]? = some x) : getI l (j : Int) = some x := by
 rw [getI_nat]; exact h
theorem find_at {α : Type} (l : List α) (hl : l.length < 9223372036854775808) (f : Int → Option (Sum Int Int)) (q : α → Bool) (hs : ∀ (j : Nat) x, l[j]? = some x → f j = some (bif q x then .inr (j : Int) else .inl (IntKind.i64.wrap ((j : Int) + 1)))) (he : f (l.length : Nat) = some (.inr (-1))) : ∀ (k : Nat) (j : Nat), j ≤ l.length → l.length - j < k → ∃ i : Int, iter f k (j : Int) = some i ∧ decide (0 ≤ i) = (l.drop j).any q := by
 intro k
 induction k with
 | zero => intro j _ h; omega
 | succ k ih =>
  intro j hj hk
  rcases Nat.lt_or_ge j l.length with h | h
  ·rw [List.drop_eq_getElem_cons h]
   simp only [iter, List.any_cons]
   rw [hs j _ (List.getElem?_eq_getElem h)]
   cases hq : q l[j] with
   | true => exact ⟨j, rfl, by simp⟩
   | false =>
    obtain ⟨i, h1, h2⟩ := ih (j + 1) h (by omega)
    rw [wrap_in _ (by omega) (by omega)]
    exact ⟨i, h1, by rw [h2]; rfl⟩
  ·have : j = l.length := by omega
   subst this
   rw [List.drop_length]
   simp only [iter]
   rw [he]
   exact ⟨-1, rfl, rfl⟩
theorem find_idx {α : Type} (l : List α) (hl : l.length < 9223372036854775808) (f : Int → Option (Sum Int Int)) (q : α → Bool) (hs : ∀ (j : Nat) x, l[j]? = some x → f j = some (bif q x then .inr (j : Int) else .inl (IntKind.i64.wrap ((j : Int) + 1)))) (he : f (l.length : Nat) = some (.inr (-1))) (k : Nat) (hk : l.length < k) : ∃ i : Int, iter f k 0 = some i ∧ decide (0 ≤ i) = l.any q := by
 simpa using find_at l hl f q hs he k 0 (Nat.zero_le _) (by omega)
theorem all2_at {α β ρ : Type} (l : List α) (m : List β) (hlm : m.length = l.length) (hl : l.length < 9223372036854775808) (f : Int → Option (Sum Int ρ)) (p : α → β → Bool) (yes no : ρ) (hs : ∀ (j : Nat) x y, l[j]? = some x → m[j]? = some y → f j = some (bif p x y then .inl (IntKind.i64.wrap ((j : Int) + 1)) else .inr no)) (he : f (l.length : Nat) = some (.inr yes)) : ∀ (k : Nat) (j : Nat), j ≤ l.length → l.length - j < k → iter f k (j : Int) = some (bif ((l.drop j).zip (m.drop j)).all (fun z => p z.1 z.2) then yes else no) := by
 intro k
 induction k with
 | zero => intro j _ h; omega
 | succ k ih =>
  intro j hj hk
  rcases Nat.lt_or_ge j l.length with h | h
  ·rw [List.drop_eq_getElem_cons h, List.drop_eq_getElem_cons (by omega : j < m.length)]
   simp only [iter, List.zip_cons_cons, List.all_cons]
   rw [hs j _ _ (List.getElem?_eq_getElem h) (List.getElem?_eq_getElem (by omega : j < m.length))]
   cases hq : p l[j] m[j] with
   | false => rfl
   | true =>
    have h1 := ih (j + 1) h (by omega)
    rw [wrap_in _ (by omega) (by omega)]
    exact h1
  ·have : j = l.length := by omega
   subst this
   rw [List.drop_length]
   simp only [iter]
   rw [he]
   rfl
theorem all2_idx {α β ρ : Type} (l : List α) (m : List β) (hlm : m.length = l.length) (hl : l.length < 9223372036854775808) (f : Int → Option (Sum Int ρ)) (p : α → β → Bool) (yes no : ρ) (hs : ∀ (j : Nat) x y, l[j]? = some x → m[j]? = some y → f j = some (bif p x y then .inl (IntKind.i64.wrap ((j : Int) + 1)) else .inr no)) (he : f (l.length : Nat) = some (.inr yes)) (k : Nat) (hk : l.length < k) : iter f k 0 = some (bif (l.zip m).all (fun z => p z.1 z.2) then yes else no) := by
 simpa using all2_at l m hlm hl f p yes no hs he k 0 (Nat.zero_le _) (by omega)
theorem sz0 (n : Int) : (szOf n == 0) = !may n := by
 have := mayw_size n
 cases h : may n with
 | true =>
  obtain ⟨g0, g3, gw, gn, gp⟩ := may_mark h
  have := wide_bd g0 g3
  rw [beq_eq_false_iff_ne.mpr (by omega)]; rfl
 | false =>
  have hno : ¬ (0 ≤ n ∧ n ≤ 4611686018427387903) := fun h' => by rw [(may_iff n).2 h'] at h; cases h
  unfold szOf
  by_cases hn : 0 ≤ n
  ·rw [if_pos hn, if_neg (by omega), if_neg (by omega), if_neg (by omega), if_neg (by omega)]; rfl
  ·rw [if_neg hn]; rfl
theorem numbers_F (k : Nat) (l : List Int) (hk : l.length + 5 < k) (hl : l.length < 1000) : frames_numbers.F k l = some (l.all may) := by
 unfold frames_numbers.F contains55.F index66.F
 obtain ⟨i, h1, h2⟩ := find_idx l (by omega) (index66.s0 k l) (fun n => !may n) (fun j x hx => by
  have hj := (List.getElem?_eq_some_iff.1 hx).1
  unfold index66.s0 frames_numbers_1.F
  rw [decide_eq_true (by omega : (j : Int) < ((l.length : Nat) : Int)), getI_some hx]
  simp only [cond_true, Option.bind_some]
  rw [size_F x k (by omega)]
  simp only [Option.bind_some]
  rw [sz0]
  cases may x <;> rfl) (by
  unfold index66.s0
  rw [decide_eq_false (by omega : ¬ ((l.length : Nat) : Int) < ((l.length : Nat) : Int))]; rfl) k (by omega)
 rw [h1]
 simp only [Option.bind_some, h2, bif_tf, bif_ft]
 congr 1
 rw [List.any_eq_not_all_not]
 simp
def chainB : Int → List (Int × Int) → Bool
 | _, [] => true
 | low, z :: zs => may z.1 && may z.2 && decide (z.1 ≤ z.2) && decide (low ≤ z.1 - 2) && chainB z.2 zs
def spansB (l : List (Int × Int)) : Bool := chainB (-2) l && (decide (0 < l.length) && decide (l.length ≤ 32))
theorem spans_F (k : Nat) (l : List (Int × Int)) (hk : l.length + 20 < k) (hl : l.length < 9223372036854775808) : frames_spans.F k l = some (spansB l) := by
 unfold frames_spans.F
 have : iter (frames_spans.s0 k l) k (-2, 0) = _ := iter_idx l (frames_spans.s0 k l) (fun j (t : Int) => (t, (j : Int))) (fun low z => some (bif (may z.1 && may z.2 && decide (z.1 ≤ z.2) && decide (low ≤ z.1 - 2)) then .inl z.2 else .inr false)) (fun _ => some (decide (0 < l.length) && decide (l.length ≤ 32))) (fun j t x hx hj => by
  unfold frames_spans.s0
  simp only
  rw [decide_eq_true (by omega : (j : Int) < ((l.length : Nat) : Int)), getI_some hx]
  simp only [cond_true, Option.bind_some]
  rw [numbers_F k [x.1, x.2] (by simp; omega) (by simp)]
  simp only [Option.bind_some, List.all_cons, List.all_nil, Bool.and_true]
  cases h1 : (may x.1 && may x.2) with
  | false => rfl
  | true =>
   rw [Bool.and_eq_true, may_iff, may_iff] at h1
   simp only [cond_true, Bool.true_and]
   by_cases h2 : x.2 < x.1
   ·rw [decide_eq_true h2, decide_eq_false (by omega : ¬ x.1 ≤ x.2)]; rfl
   rw [decide_eq_false h2, decide_eq_true (by omega : x.1 ≤ x.2), wrap_in (x.1 - 2) (by omega) (by omega)]
   by_cases h3 : x.1 - 2 < t
   ·rw [decide_eq_true h3, decide_eq_false (by omega : ¬ t ≤ x.1 - 2)]; rfl
   rw [decide_eq_false h3, decide_eq_true (by omega : t ≤ x.1 - 2), wrap_in ((j : Int) + 1) (by omega) (by omega)]
   rfl) (fun t => by
  unfold frames_spans.s0
  simp only
  rw [decide_eq_false (by omega : ¬ ((l.length : Nat) : Int) < ((l.length : Nat) : Int))]
  by_cases h1 : 0 < l.length
  ·rw [decide_eq_true (by omega : (0 : Int) < ((l.length : Nat) : Int)), decide_eq_true h1]
   by_cases h2 : l.length ≤ 32
   ·rw [decide_eq_true (by omega : ((l.length : Nat) : Int) ≤ 32), decide_eq_true h2]; rfl
   ·rw [decide_eq_false (by omega : ¬ ((l.length : Nat) : Int) ≤ 32), decide_eq_false h2]; rfl
  ·rw [decide_eq_false (by omega : ¬ (0 : Int) < ((l.length : Nat) : Int)), decide_eq_false h1]; rfl) k (-2) (by omega)
 rw [this]
 unfold spansB
 generalize (decide (0 < l.length) && decide (l.length ≤ 32)) = fin
 clear this hk hl
 generalize (-2 : Int) = low
 induction l generalizing low with
 | nil => simp [foldE, chainB]
 | cons z zs ih =>
  simp only [foldE, chainB, Option.bind_some]
  cases (may z.1 && may z.2 && decide (z.1 ≤ z.2) && decide (low ≤ z.1 - 2)) with
  | false => rfl
  | true => simp only [cond_true, Bool.true_and]; exact ih z.2
def shapeB (x : Fr) : Bool :=
 let z := fun (n : Int) => decide (n = 0)
 let nd := decide (x.2.2.2.2.2.2.1 = [])
 let ns := decide (x.2.2.2.2.2.2.2 = [])
 let s := z x.2.1
 let o := z x.2.2.1
 let n := z x.2.2.2.1
 let c := z x.2.2.2.2.1
 let f := !x.2.2.2.2.2.1
 if x.1 = 0 ∨ x.1 = 1 ∨ x.1 = 30 then s && o && n && c && f && nd && ns
 else if x.1 = 2 then s && o && c && f && nd
 else if x.1 = 8 then n && c && ns
 else if x.1 = 4 then n && f && nd && ns
 else if x.1 = 5 then o && n && f && nd && ns
 else if x.1 = 17 then o && c && f && nd && ns
 else if x.1 = 16 ∨ x.1 = 18 then s && o && c && f && nd && ns
 else if x.1 = 28 then s && o && n && f && ns
 else false
def mayB (x : Fr) : Bool := shapeB x && ([x.2.1, x.2.2.1, x.2.2.2.1, x.2.2.2.2.1].all may && (decide (x.2.2.2.2.2.2.1.length ≤ 1200) && (decide (x.2.2.1 ≤ 4611686018427387903 - (x.2.2.2.2.2.2.1.length : Int)) && ((x.1 != 2) || spansB x.2.2.2.2.2.2.2))))
theorem b_eq (n m : Int) : (n == m) = decide (n = m) := by
 by_cases h : n = m
 ·rw [decide_eq_true h, beq_iff_eq.mpr h]
 ·rw [decide_eq_false h, beq_eq_false_iff_ne.mpr h]
theorem len_nil {α : Type} (l : List α) : (((l.length : Nat) : Int) == 0) = decide (l = []) := by
 cases l with
 | nil => rfl
 | cons x l => rw [decide_eq_false (by simp), beq_eq_false_iff_ne.mpr (by simp only [List.length_cons]; omega)]
theorem may_F (k : Nat) (x : Fr) (hk : x.2.2.2.2.2.2.2.length + 20 < k) (hd : x.2.2.2.2.2.2.1.length < 9223372036854775808) (hl : x.2.2.2.2.2.2.2.length < 9223372036854775808) : frames_May.F k x.1 x.2.1 x.2.2.1 x.2.2.2.1 x.2.2.2.2.1 x.2.2.2.2.2.1 x.2.2.2.2.2.2.1 x.2.2.2.2.2.2.2 = some (mayB x) := by
 obtain ⟨kd, s, o, n, c, f, d, z⟩ := x
 simp only at hk hd hl ⊢
 unfold frames_May.F mayB
 simp only
 rw [numbers_F k [s, o, n, c] (by simp; omega) (by simp), spans_F k z hk hl, wrap_in (4611686018427387903 - (d.length : Int)) (by omega) (by omega)]
 have e1200 : decide (((d.length : Nat) : Int) ≤ 1200) = decide (d.length ≤ 1200) := by rw [decide_eq_decide]; omega
 simp only [Option.bind_some, e1200, bif_tf, bif_no, bif_and, bif_nd, bif_or, bif_imp, len_nil]
 simp only [b_eq]
 generalize [s, o, n, c].all may = N4
 generalize decide (d.length ≤ 1200) = D
 generalize decide (o ≤ 4611686018427387903 - (d.length : Int)) = O
 generalize spansB z = Z
 unfold frames_spare.F shapeB
 simp only
 by_cases c0 : kd = 0
 ·subst c0; (simp only [beq_self_eq_true, cond_true, cond_false, if_true, true_or, or_true, Option.bind_some, decide_true, Bool.true_and, Bool.and_true, Bool.not_false, true_and, reduceCtorEq, decide_false, ite_true, ite_false, Int.reduceBEq, or_self, Int.reduceEq, if_false, bif_no, bif_and, bif_nd]; congr 1; generalize decide (s = 0) = bs; generalize decide (o = 0) = bo; generalize decide (n = 0) = bn; generalize decide (c = 0) = bc; generalize decide (d = []) = bd; generalize decide (z = []) = bz; cases bs <;> cases bo <;> cases bn <;> cases bc <;> cases bd <;> cases bz <;> cases f <;> rfl)
 by_cases c1 : kd = 1
 ·subst c1; (simp only [beq_self_eq_true, cond_true, cond_false, if_true, true_or, or_true, Option.bind_some, decide_true, Bool.true_and, Bool.and_true, Bool.not_false, true_and, reduceCtorEq, decide_false, ite_true, ite_false, Int.reduceBEq, or_self, Int.reduceEq, if_false, bif_no, bif_and, bif_nd]; congr 1; generalize decide (s = 0) = bs; generalize decide (o = 0) = bo; generalize decide (n = 0) = bn; generalize decide (c = 0) = bc; generalize decide (d = []) = bd; generalize decide (z = []) = bz; cases bs <;> cases bo <;> cases bn <;> cases bc <;> cases bd <;> cases bz <;> cases f <;> rfl)
 by_cases c30 : kd = 30
 ·subst c30; (simp only [beq_self_eq_true, cond_true, cond_false, if_true, true_or, or_true, Option.bind_some, decide_true, Bool.true_and, Bool.and_true, Bool.not_false, true_and, reduceCtorEq, decide_false, ite_true, ite_false, Int.reduceBEq, or_self, Int.reduceEq, if_false, bif_no, bif_and, bif_nd]; congr 1; generalize decide (s = 0) = bs; generalize decide (o = 0) = bo; generalize decide (n = 0) = bn; generalize decide (c = 0) = bc; generalize decide (d = []) = bd; generalize decide (z = []) = bz; cases bs <;> cases bo <;> cases bn <;> cases bc <;> cases bd <;> cases bz <;> cases f <;> rfl)
 by_cases c2 : kd = 2
 ·subst c2; (simp only [beq_self_eq_true, cond_true, cond_false, if_true, true_or, or_true, Option.bind_some, decide_true, Bool.true_and, Bool.and_true, Bool.not_false, true_and, reduceCtorEq, decide_false, ite_true, ite_false, Int.reduceBEq, or_self, Int.reduceEq, if_false, bif_no, bif_and, bif_nd]; congr 1; generalize decide (s = 0) = bs; generalize decide (o = 0) = bo; generalize decide (n = 0) = bn; generalize decide (c = 0) = bc; generalize decide (d = []) = bd; generalize decide (z = []) = bz; cases bs <;> cases bo <;> cases bn <;> cases bc <;> cases bd <;> cases bz <;> cases f <;> rfl)
 by_cases c8 : kd = 8
 ·subst c8; (simp only [beq_self_eq_true, cond_true, cond_false, if_true, true_or, or_true, Option.bind_some, decide_true, Bool.true_and, Bool.and_true, Bool.not_false, true_and, reduceCtorEq, decide_false, ite_true, ite_false, Int.reduceBEq, or_self, Int.reduceEq, if_false, bif_no, bif_and, bif_nd]; congr 1; generalize decide (s = 0) = bs; generalize decide (o = 0) = bo; generalize decide (n = 0) = bn; generalize decide (c = 0) = bc; generalize decide (d = []) = bd; generalize decide (z = []) = bz; cases bs <;> cases bo <;> cases bn <;> cases bc <;> cases bd <;> cases bz <;> cases f <;> rfl)
 by_cases c4 : kd = 4
 ·subst c4; (simp only [beq_self_eq_true, cond_true, cond_false, if_true, true_or, or_true, Option.bind_some, decide_true, Bool.true_and, Bool.and_true, Bool.not_false, true_and, reduceCtorEq, decide_false, ite_true, ite_false, Int.reduceBEq, or_self, Int.reduceEq, if_false, bif_no, bif_and, bif_nd]; congr 1; generalize decide (s = 0) = bs; generalize decide (o = 0) = bo; generalize decide (n = 0) = bn; generalize decide (c = 0) = bc; generalize decide (d = []) = bd; generalize decide (z = []) = bz; cases bs <;> cases bo <;> cases bn <;> cases bc <;> cases bd <;> cases bz <;> cases f <;> rfl)
 by_cases c5 : kd = 5
 ·subst c5; (simp only [beq_self_eq_true, cond_true, cond_false, if_true, true_or, or_true, Option.bind_some, decide_true, Bool.true_and, Bool.and_true, Bool.not_false, true_and, reduceCtorEq, decide_false, ite_true, ite_false, Int.reduceBEq, or_self, Int.reduceEq, if_false, bif_no, bif_and, bif_nd]; congr 1; generalize decide (s = 0) = bs; generalize decide (o = 0) = bo; generalize decide (n = 0) = bn; generalize decide (c = 0) = bc; generalize decide (d = []) = bd; generalize decide (z = []) = bz; cases bs <;> cases bo <;> cases bn <;> cases bc <;> cases bd <;> cases bz <;> cases f <;> rfl)
 by_cases c17 : kd = 17
 ·subst c17; (simp only [beq_self_eq_true, cond_true, cond_false, if_true, true_or, or_true, Option.bind_some, decide_true, Bool.true_and, Bool.and_true, Bool.not_false, true_and, reduceCtorEq, decide_false, ite_true, ite_false, Int.reduceBEq, or_self, Int.reduceEq, if_false, bif_no, bif_and, bif_nd]; congr 1; generalize decide (s = 0) = bs; generalize decide (o = 0) = bo; generalize decide (n = 0) = bn; generalize decide (c = 0) = bc; generalize decide (d = []) = bd; generalize decide (z = []) = bz; cases bs <;> cases bo <;> cases bn <;> cases bc <;> cases bd <;> cases bz <;> cases f <;> rfl)
 by_cases c16 : kd = 16
 ·subst c16; (simp only [beq_self_eq_true, cond_true, cond_false, if_true, true_or, or_true, Option.bind_some, decide_true, Bool.true_and, Bool.and_true, Bool.not_false, true_and, reduceCtorEq, decide_false, ite_true, ite_false, Int.reduceBEq, or_self, Int.reduceEq, if_false, bif_no, bif_and, bif_nd]; congr 1; generalize decide (s = 0) = bs; generalize decide (o = 0) = bo; generalize decide (n = 0) = bn; generalize decide (c = 0) = bc; generalize decide (d = []) = bd; generalize decide (z = []) = bz; cases bs <;> cases bo <;> cases bn <;> cases bc <;> cases bd <;> cases bz <;> cases f <;> rfl)
 by_cases c18 : kd = 18
 ·subst c18; (simp only [beq_self_eq_true, cond_true, cond_false, if_true, true_or, or_true, Option.bind_some, decide_true, Bool.true_and, Bool.and_true, Bool.not_false, true_and, reduceCtorEq, decide_false, ite_true, ite_false, Int.reduceBEq, or_self, Int.reduceEq, if_false, bif_no, bif_and, bif_nd]; congr 1; generalize decide (s = 0) = bs; generalize decide (o = 0) = bo; generalize decide (n = 0) = bn; generalize decide (c = 0) = bc; generalize decide (d = []) = bd; generalize decide (z = []) = bz; cases bs <;> cases bo <;> cases bn <;> cases bc <;> cases bd <;> cases bz <;> cases f <;> rfl)
 by_cases c28 : kd = 28
 ·subst c28; (simp only [beq_self_eq_true, cond_true, cond_false, if_true, true_or, or_true, Option.bind_some, decide_true, Bool.true_and, Bool.and_true, Bool.not_false, true_and, reduceCtorEq, decide_false, ite_true, ite_false, Int.reduceBEq, or_self, Int.reduceEq, if_false, bif_no, bif_and, bif_nd]; congr 1; generalize decide (s = 0) = bs; generalize decide (o = 0) = bo; generalize decide (n = 0) = bn; generalize decide (c = 0) = bc; generalize decide (d = []) = bd; generalize decide (z = []) = bz; cases bs <;> cases bo <;> cases bn <;> cases bc <;> cases bd <;> cases bz <;> cases f <;> rfl)
 simp only [beq_eq_false_iff_ne.mpr c0, beq_eq_false_iff_ne.mpr c1, beq_eq_false_iff_ne.mpr c30, beq_eq_false_iff_ne.mpr c2, beq_eq_false_iff_ne.mpr c8, beq_eq_false_iff_ne.mpr c4, beq_eq_false_iff_ne.mpr c5, beq_eq_false_iff_ne.mpr c17, beq_eq_false_iff_ne.mpr c16, beq_eq_false_iff_ne.mpr c18, beq_eq_false_iff_ne.mpr c28, c0, c1, c30, c2, c8, c4, c5, c17, c16, c18, c28, or_self, if_false, cond_false, Option.bind_some]
 simp only [beq_self_eq_true, cond_true, cond_false, Option.bind_some, decide_true, Bool.true_and, Bool.and_true, bif_no, bif_and, bif_nd, Bool.false_and]
end Go.Proofs.Ytpdchohbmmfemaa.X
