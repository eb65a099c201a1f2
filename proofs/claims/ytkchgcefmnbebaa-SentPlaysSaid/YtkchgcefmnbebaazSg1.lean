import Derived.Test.YtkchgcefmnbebaazRxU
import Derived.Test.YtkchgcefmnbebaazSa
namespace Go.Proofs.Ytkchgcefmnbebaa.X
open Go Go.RowKit Go.Proofs.YtkchgcefmnbebaaW.Rx
set_option linter.unusedVariables false
set_option linter.unusedSimpArgs false
abbrev Sps := List (Int × Int)
def Sp (x : Int × Int) : Prop := 0 ≤ x.1 ∧ x.1 ≤ x.2 ∧ x.2 ≤ 4611686018427387903
instance (x : Int × Int) : Decidable (Sp x) := by unfold Sp; infer_instance
theorem isSpan_F (k : Nat) (a b : Int) : spans_isSpan.F k a b = some (decide (Sp (a, b))) := by
 unfold spans_isSpan.F Sp
 by_cases h1 : 0 ≤ a <;> by_cases h2 : a ≤ b <;> by_cases h3 : b ≤ 4611686018427387903 <;> simp [h1, h2, h3]
theorem refSpan_F (k : Nat) (a b : Int) : ref05_Span.F k a b = some (decide (Sp (a, b))) := isSpan_F k a b
def Rise : Int → Sps → Prop
 | _, [] => True
 | m, x :: r => m ≤ x.1 ∧ Sp x ∧ Rise (x.2 + 2) r
instance riseDec : ∀ (m : Int) (l : Sps), Decidable (Rise m l)
 | _, [] => isTrue trivial
 | m, x :: r => by
  have := riseDec (x.2 + 2) r
  unfold Rise; infer_instance
theorem right_fold {l : Sps} (hl : l.length ≤ 9223372036854775807) {k : Nat} (hk : l.length < k) : spans_Right.F k l = foldE (fun (m : Int) (x : Int × Int) => bif decide (x.1 < m) then some (.inr false) else bif decide (Sp x) then some (.inl (IntKind.i64.wrap (x.2 + 2))) else some (.inr false)) (fun _ => some (decide ((l.length : Int) ≤ 256))) l 0 := by
 unfold spans_Right.F
 refine iter_idx l (spans_Right.s0 k l) (fun j (m : Int) => (m, (j : Int))) _ _ (fun j m x hx hj => ?_) (fun m => ?_) k 0 hk
 ·have hw : IntKind.i64.wrap ((j : Int) + 1) = ((j + 1 : Nat) : Int) := by rw [wrap_in _ (by omega) (by omega)]; omega
  have hlt : decide ((j : Int) < (l.length : Int)) = true := decide_eq_true (by omega)
  simp only [spans_Right.s0, hlt, cond_true, getI_nat, hx, Option.bind_some, isSpan_F, hw, map_bif, Option.map_some, step_inl, step_inr]
 ·have hlt : decide ((l.length : Int) < (l.length : Int)) = false := decide_eq_false (by omega)
  simp only [spans_Right.s0, hlt, cond_false]
  cases decide ((l.length : Int) ≤ 256) <;> rfl
theorem right_go (b : Bool) : ∀ (l : Sps) (m : Int), foldE (fun (m : Int) (x : Int × Int) => bif decide (x.1 < m) then some (.inr false) else bif decide (Sp x) then some (.inl (IntKind.i64.wrap (x.2 + 2))) else some (.inr false)) (fun _ => some b) l m = some (decide (Rise m l) && b)
 | [], m => by
  simp only [foldE]
  rw [decide_eq_true (by trivial : Rise m [])]; rfl
 | x :: r, m => by
  simp only [foldE]
  by_cases h1 : x.1 < m
  ·have : ¬ Rise m (x :: r) := fun h => by have := h.1; omega
   simp [h1, this]
  by_cases h2 : Sp x
  ·have h2' := h2
   unfold Sp at h2'
   rw [decide_eq_false h1, decide_eq_true h2, wrap_in (x.2 + 2) (by omega) (by omega)]
   simp only [cond_false, cond_true, Option.bind_some]
   rw [right_go b r]
   have : Rise m (x :: r) ↔ Rise (x.2 + 2) r := ⟨fun h => h.2.2, fun h => ⟨by omega, h2, h⟩⟩
   simp [this]
  ·have : ¬ Rise m (x :: r) := fun h => h2 h.2.1
   simp [h1, h2, this]
def RightB (l : Sps) : Prop := Rise 0 l ∧ l.length ≤ 256
instance (l : Sps) : Decidable (RightB l) := by unfold RightB; infer_instance
theorem right_F {l : Sps} (hl : l.length ≤ 9223372036854775807) {k : Nat} (hk : l.length < k) : spans_Right.F k l = some (decide (RightB l)) := by
 rw [right_fold hl hk, right_go]
 unfold RightB
 by_cases h1 : Rise 0 l <;> by_cases h2 : l.length ≤ 256 <;> simp [h1, h2] <;> omega
def rowsGo : Option Int → Sps → Bool
 | _, [] => true
 | none, x :: r => decide (Sp x) && rowsGo (some x.2) r
 | some p, x :: r => decide (Sp x) && (!decide (IntKind.i64.wrap (x.1 - 1) ≤ p) && rowsGo (some x.2) r)
theorem rows_at {l : Sps} (hl : l.length ≤ 9223372036854775807) (k : Nat) : ∀ (q j : Nat), j ≤ l.length → l.length - j < q → iter (ref05_rows.s0 k l) q (j : Int) = some (rowsGo (if j = 0 then none else (l[j - 1]?).map (·.2)) (l.drop j)) := by
 intro q
 induction q with
 | zero => intro j _ h; omega
 | succ q ih =>
  intro j hj hq
  rcases Nat.lt_or_ge j l.length with h | h
  ·have hw : IntKind.i64.wrap ((j : Int) + 1) = ((j + 1 : Nat) : Int) := by rw [wrap_in _ (by omega) (by omega)]; omega
   have hlt : decide ((j : Int) < (l.length : Int)) = true := decide_eq_true (by omega)
   have hx : l[j]? = some l[j] := List.getElem?_eq_getElem h
   have e := ih (j + 1) h (by omega)
   rw [if_neg (by omega), Nat.add_sub_cancel, hx, Option.map_some] at e
   rw [List.drop_eq_getElem_cons h]
   simp only [iter, ref05_rows.s0, hlt, cond_true, getI_nat, hx, Option.bind_some, refSpan_F, hw]
   by_cases hs : Sp (l[j].1, l[j].2)
   ·rw [decide_eq_true hs]
    simp only [cond_true]
    by_cases h0 : j = 0
    ·subst h0
     rw [decide_eq_false (by omega)]
     simp only [cond_false, Option.bind_some]
     rw [e]
     simp only [if_true, rowsGo]
     rw [decide_eq_true hs]; rfl
    ·have hp : l[j - 1]? = some (l[j - 1]'(by omega)) := List.getElem?_eq_getElem (by omega)
     have hw1 : IntKind.i64.wrap ((j : Int) - 1) = ((j - 1 : Nat) : Int) := by rw [wrap_in _ (by omega) (by omega)]; omega
     rw [decide_eq_true (by omega), hw1, getI_nat, hp, if_neg h0]
     simp only [cond_true, Option.bind_some, Option.map_some, rowsGo]
     rw [decide_eq_true hs]
     by_cases h2 : IntKind.i64.wrap (l[j].1 - 1) ≤ (l[j - 1]'(by omega)).2
     ·rw [decide_eq_true h2]; rfl
     ·rw [decide_eq_false h2]
      simp only [cond_false, Option.bind_some]
      rw [e]; rfl
   ·rw [decide_eq_false hs]
    simp only [cond_false, Option.bind_some]
    cases (if j = 0 then none else (l[j - 1]?).map (·.2)) <;> simp only [rowsGo] <;> rw [decide_eq_false hs] <;> rfl
  ·have : j = l.length := by omega
   subst this
   have hlt : decide ((l.length : Int) < (l.length : Int)) = false := decide_eq_false (by omega)
   rw [List.drop_length]
   simp only [iter, ref05_rows.s0, hlt, cond_false, Option.bind_some]
   cases (if l.length = 0 then none else (l[l.length - 1]?).map (·.2)) <;> rfl
theorem rows_some_iff : ∀ (l : Sps) (p : Int), 0 ≤ p → p ≤ 4611686018427387903 → (rowsGo (some p) l = true ↔ Rise (p + 2) l)
 | [], p, _, _ => by simp [rowsGo, Rise]
 | x :: r, p, h0, h1 => by
  simp only [rowsGo, Rise, Bool.and_eq_true, decide_eq_true_eq, Bool.not_eq_true', decide_eq_false_iff_not, Int.not_le]
  constructor
  ·rintro ⟨h2, h3, h4⟩
   have h2' := h2
   unfold Sp at h2'
   rw [wrap_in (x.1 - 1) (by omega) (by omega)] at h3
   exact ⟨by omega, h2, (rows_some_iff r _ (by omega) (by omega)).1 h4⟩
  ·rintro ⟨h3, h2, h4⟩
   have h2' := h2
   unfold Sp at h2'
   rw [wrap_in (x.1 - 1) (by omega) (by omega)]
   exact ⟨h2, by omega, (rows_some_iff r _ (by omega) (by omega)).2 h4⟩
theorem rows_iff : ∀ (l : Sps), rowsGo none l = true ↔ Rise 0 l
 | [] => by simp [rowsGo, Rise]
 | x :: r => by
  simp only [rowsGo, Rise, Bool.and_eq_true, decide_eq_true_eq]
  constructor
  ·rintro ⟨h2, h4⟩
   have h2' := h2
   unfold Sp at h2'
   exact ⟨by omega, h2, (rows_some_iff r _ (by omega) (by omega)).1 h4⟩
  ·rintro ⟨h3, h2, h4⟩
   have h2' := h2
   unfold Sp at h2'
   exact ⟨h2, (rows_some_iff r _ (by omega) (by omega)).2 h4⟩
theorem refRight_F {l : Sps} (hl : l.length ≤ 9223372036854775807) {k : Nat} (hk : l.length < k) : ref05_Right.F k l = some (decide (RightB l)) := by
 unfold ref05_Right.F ref05_rows.F
 have h := rows_at hl k k 0 (Nat.zero_le _) (by omega)
 simp only [if_true, List.drop_zero] at h
 rw [show ((0 : Nat) : Int) = 0 from rfl] at h
 rw [h]
 have e : rowsGo none l = decide (Rise 0 l) := by rw [Bool.eq_iff_iff, rows_iff, decide_eq_true_eq]
 rw [e]
 unfold RightB
 by_cases h1 : Rise 0 l <;> by_cases h2 : l.length ≤ 256
 ·rw [decide_eq_true (by omega : (l.length : Int) ≤ 256)]; simp [h1, h2]
 ·rw [decide_eq_false (by omega : ¬ (l.length : Int) ≤ 256)]; simp [h1, h2]
 ·rw [decide_eq_true (by omega : (l.length : Int) ≤ 256)]; simp [h1, h2]
 ·rw [decide_eq_false (by omega : ¬ (l.length : Int) ≤ 256)]; simp [h1, h2]
def firstIx (p : Int × Int → Bool) : Sps → Nat
 | [] => 0
 | x :: r => if p x then 0 else firstIx p r + 1
theorem firstIx_le (p : Int × Int → Bool) : ∀ l : Sps, firstIx p l ≤ l.length
 | [] => Nat.le_refl _
 | x :: r => by
  simp only [firstIx]
  split
  ·omega
  ·have := firstIx_le p r; simp only [List.length_cons]; omega
def Mono (p : Int × Int → Bool) (l : Sps) : Prop := ∀ (i j : Nat) (x y : Int × Int), l[i]? = some x → l[j]? = some y → i ≤ j → p x = true → p y = true
theorem firstIx_iff (p : Int × Int → Bool) : ∀ (l : Sps), Mono p l → ∀ (i : Nat) (x : Int × Int), l[i]? = some x → (p x = true ↔ firstIx p l ≤ i)
 | [], _, i, x, h => by simp at h
 | y :: r, hm, i, x, h => by
  simp only [firstIx]
  by_cases hy : p y = true
  ·simp only [hy, if_true, Nat.zero_le, iff_true]
   exact hm 0 i y x rfl h (Nat.zero_le _) hy
  ·simp only [hy, if_false]
   match i, h with
   | 0, h =>
    simp only [List.getElem?_cons_zero, Option.some.injEq] at h
    subst h
    simp [hy]
   | i + 1, h =>
    simp only [List.getElem?_cons_succ] at h
    have := firstIx_iff p r (fun i j x y h1 h2 h3 h4 => hm (i + 1) (j + 1) x y h1 h2 (by omega) h4) i x h
    rw [this]; simp
theorem rise_ge : ∀ (l : Sps) (m : Int), Rise m l → ∀ (i : Nat) (x : Int × Int), l[i]? = some x → m ≤ x.1 ∧ Sp x
 | [], m, _, i, x, h => by simp at h
 | y :: r, m, hr, 0, x, h => by
  simp only [List.getElem?_cons_zero, Option.some.injEq] at h
  subst h
  exact ⟨hr.1, hr.2.1⟩
 | y :: r, m, hr, i + 1, x, h => by
  simp only [List.getElem?_cons_succ] at h
  obtain ⟨h1, h2⟩ := rise_ge r _ hr.2.2 i x h
  have h3 := hr.1
  have h4 := hr.2.1
  unfold Sp at h4
  exact ⟨by omega, h2⟩
theorem rise_lt : ∀ (l : Sps) (m : Int), Rise m l → ∀ (i j : Nat) (x y : Int × Int), l[i]? = some x → l[j]? = some y → i < j → x.2 + 2 ≤ y.1
 | [], m, _, i, j, x, y, h, _, _ => by simp at h
 | z :: r, m, hr, 0, j + 1, x, y, h1, h2, _ => by
  simp only [List.getElem?_cons_zero, Option.some.injEq] at h1
  simp only [List.getElem?_cons_succ] at h2
  subst h1
  exact (rise_ge r _ hr.2.2 j y h2).1
 | z :: r, m, hr, i + 1, j + 1, x, y, h1, h2, h3 => by
  simp only [List.getElem?_cons_succ] at h1 h2
  exact rise_lt r _ hr.2.2 i j x y h1 h2 (by omega)
 | z :: r, m, hr, i, 0, x, y, h1, h2, h3 => by omega
theorem mono_of {l : Sps} {m : Int} (hr : Rise m l) (p : Int × Int → Bool) (hp : ∀ x y, Sp x → Sp y → x.2 + 2 ≤ y.1 → p x = true → p y = true) : Mono p l := by
 intro i j x y hx hy hij h
 rcases Nat.lt_or_ge i j with hlt | hge
 ·exact hp x y (rise_ge l m hr i x hx).2 (rise_ge l m hr j y hy).2 (rise_lt l m hr i j x y hx hy hlt) h
 ·have : i = j := by omega
  subst this
  rw [hx] at hy
  cases hy
  exact h
theorem bin_at {l : Sps} {p : Int × Int → Bool} (hm : Mono p l) (f : Int × Int × Int → Option (Sum (Int × Int × Int) (Int × Int))) (n : Int)
  (hf : ∀ (lo hi : Nat) (x : Int × Int), lo < hi → hi ≤ l.length → l[(lo + hi) / 2]? = some x → f ((lo : Int), (hi : Int), n) = some (if p x then .inl ((lo : Int), (((lo + hi) / 2 : Nat) : Int), n) else .inl ((((lo + hi) / 2 + 1 : Nat) : Int), (hi : Int), n))) (he : ∀ (lo : Nat), f ((lo : Int), (lo : Int), n) = some (.inr ((lo : Int), n))) :
  ∀ (k lo hi : Nat), lo ≤ firstIx p l → firstIx p l ≤ hi → hi ≤ l.length → hi - lo < k → iter f k ((lo : Int), (hi : Int), n) = some ((firstIx p l : Int), n) := by
 intro k
 induction k with
 | zero => intro lo hi _ _ _ h; omega
 | succ k ih =>
  intro lo hi h1 h2 h3 h4
  simp only [iter]
  rcases Nat.lt_or_ge lo hi with h | h
  ·have hml : (lo + hi) / 2 < l.length := by omega
   have hx : l[(lo + hi) / 2]? = some l[(lo + hi) / 2] := List.getElem?_eq_getElem hml
   have hiff := firstIx_iff p l hm _ _ hx
   rw [hf lo hi _ h h3 hx]
   by_cases hp : p l[(lo + hi) / 2] = true
   ·rw [if_pos hp]
    exact ih lo _ h1 (hiff.1 hp) (by omega) (by omega)
   ·rw [if_neg hp]
    have : ¬ firstIx p l ≤ (lo + hi) / 2 := fun h => hp (hiff.2 h)
    exact ih _ hi (by omega) h2 h3 (by omega)
  ·have : lo = hi := by omega
   subst this
   rw [he lo]
   have : lo = firstIx p l := by omega
   rw [← this]; rfl
theorem mid_eq {l : Sps} (hl : l.length < 4611686018427387904) {lo hi : Nat} (h : hi ≤ l.length) (h1 : lo < hi) : IntKind.i64.wrap (Int.tdiv (IntKind.i64.wrap ((lo : Int) + hi)) 2) = (((lo + hi) / 2 : Nat) : Int) := by
 rw [wrap_in ((lo : Int) + hi) (by omega) (by omega), Int.tdiv_eq_ediv_of_nonneg (by omega), wrap_in (((lo : Int) + hi) / 2) (by omega) (by omega)]; omega
theorem mid_succ {l : Sps} (hl : l.length < 4611686018427387904) {lo hi : Nat} (h : hi ≤ l.length) (h1 : lo < hi) : IntKind.i64.wrap ((((lo + hi) / 2 : Nat) : Int) + 1) = (((lo + hi) / 2 + 1 : Nat) : Int) := by
 rw [wrap_in _ (by omega) (by omega)]; omega
def p32 (n : Int) (s : Int × Int) : Bool := decide (n ≤ s.2)
theorem search45_F {l : Sps} (hl : l.length < 4611686018427387904) {k : Nat} (hk : l.length < k) (n : Int) (hm : Mono (p32 n) l) : search45.F k l n = some ((firstIx (p32 n) l : Int), n) := by
 unfold search45.F
 refine bin_at hm (search45.s0 k l) n (fun lo hi x h1 h2 hx => ?_) (fun lo => ?_) k 0 l.length (Nat.zero_le _) (firstIx_le _ _) (Nat.le_refl _) (by omega)
 ·have h : decide ((lo : Int) < (hi : Int)) = true := decide_eq_true (by omega)
  simp only [search45.s0, h, cond_true, mid_eq hl h2 h1, getI_nat, hx, Option.bind_some, spans_Has_1.F]
  by_cases hp : n ≤ x.2
  ·simp [hp, p32]
  ·simp only [decide_eq_false hp, cond_false, Option.bind_some, p32, mid_succ hl h2 h1]; rfl
 ·have h : decide ((lo : Int) < (lo : Int)) = false := decide_eq_false (by omega)
  simp only [search45.s0, h, cond_false]
def inS (n : Int) (x : Int × Int) : Bool := decide (x.1 ≤ n) && decide (n ≤ x.2)
def hasB (l : Sps) (n : Int) : Bool := decide (RightB l) && l.any (inS n)
theorem mono32 {l : Sps} {m : Int} (hr : Rise m l) (n : Int) : Mono (p32 n) l := mono_of hr _ fun x y hx hy hxy h => by
 unfold p32 Sp at *
 simp only [decide_eq_true_eq] at *
 omega
theorem has_F {l : Sps} (hl : l.length < 4611686018427387904) {k : Nat} (hk : l.length < k) (n : Int) : spans_Has.F k l n = some (hasB l n) := by
 unfold spans_Has.F hasB
 rw [right_F (by omega) hk]
 simp only [Option.bind_some]
 by_cases h : RightB l
 ·rw [decide_eq_true h]
  have hR := h.1
  have hm := mono32 hR n
  simp only [cond_true, search45_F hl hk n hm, Option.bind_some, Bool.true_and]
  have key : l.any (inS n) = match l[firstIx (p32 n) l]? with | some x => decide (x.1 ≤ n) | none => false := by
   rw [Bool.eq_iff_iff, List.any_eq_true]
   constructor
   ·rintro ⟨x, hx, hi⟩
    obtain ⟨i, hi2, rfl⟩ := List.mem_iff_getElem.1 hx
    unfold inS at hi
    rw [Bool.and_eq_true, decide_eq_true_eq, decide_eq_true_eq] at hi
    have hg : l[i]? = some l[i] := List.getElem?_eq_getElem hi2
    have hle := (firstIx_iff (p32 n) l hm i _ hg).1 (by unfold p32; exact decide_eq_true hi.2)
    have hlt : firstIx (p32 n) l < l.length := by omega
    rw [List.getElem?_eq_getElem hlt]
    dsimp only
    rcases Nat.lt_or_ge (firstIx (p32 n) l) i with h | h
    ·have h3 := rise_lt l 0 hR _ _ _ _ (List.getElem?_eq_getElem hlt) hg h
     have h4 := (rise_ge l 0 hR _ _ (List.getElem?_eq_getElem hlt)).2
     unfold Sp at h4
     exact decide_eq_true (by omega)
    ·have : firstIx (p32 n) l = i := by omega
     simp only [this]
     exact decide_eq_true hi.1
   ·intro h
    split at h
    ·rename_i x hx
     have h2 := (firstIx_iff (p32 n) l hm _ x hx).2 (Nat.le_refl _)
     unfold p32 at h2
     exact ⟨x, List.mem_of_getElem? hx, by unfold inS; rw [h, h2]; rfl⟩
    ·cases h
  rw [key]
  have hle := firstIx_le (p32 n) l
  rcases Nat.lt_or_ge (firstIx (p32 n) l) l.length with hlt | hge
  ·rw [decide_eq_true (by omega), getI_nat, List.getElem?_eq_getElem hlt]
   simp only [cond_true, Option.bind_some]
   cases decide ((l[firstIx (p32 n) l]'hlt).1 ≤ n) <;> rfl
  ·rw [decide_eq_false (by omega), List.getElem?_eq_none hge]; rfl
 ·rw [decide_eq_false h]; rfl
theorem refHas_go (n : Int) (f : Bool → Option Bool) : ∀ (l : Sps) (b : Bool), foldE (fun (b : Bool) (x : Int × Int) => (some (.inl (b || inS n x)) : Option (Sum Bool Bool))) f l b = f (b || l.any (inS n))
 | [], b => by simp [foldE]
 | x :: r, b => by simp only [foldE, Option.bind_some]; rw [refHas_go n f r, List.any_cons, Bool.or_assoc]
theorem refHas_F {l : Sps} (hl : l.length < 4611686018427387904) {k : Nat} (hk : l.length < k) (n : Int) : ref05_Has.F k l n = some (hasB l n) := by
 unfold ref05_Has.F
 refine (iter_idx l (ref05_Has.s0 k n l) (fun j (b : Bool) => (b, (j : Int))) (fun (b : Bool) (x : Int × Int) => some (.inl (b || inS n x))) (fun b => some (b && decide (RightB l))) (fun j b x hx hj => ?_) (fun b => ?_) k false hk).trans ?_
 rotate_left 2
 ·rw [refHas_go]
  unfold hasB
  rw [Bool.false_or, Bool.and_comm]
 ·have hw : IntKind.i64.wrap ((j : Int) + 1) = ((j + 1 : Nat) : Int) := by rw [wrap_in _ (by omega) (by omega)]; omega
  have hlt : decide ((j : Int) < (l.length : Int)) = true := decide_eq_true (by omega)
  simp only [ref05_Has.s0, hlt, cond_true, getI_nat, hx, Option.bind_some, hw, Option.map_some, step_inl]
  unfold inS
  cases b <;> cases decide (x.1 ≤ n) <;> cases decide (n ≤ x.2) <;> rfl
 ·have hlt : decide ((l.length : Int) < (l.length : Int)) = false := decide_eq_false (by omega)
  simp only [ref05_Has.s0, hlt, cond_false, refRight_F (by omega : l.length ≤ 9223372036854775807) hk, Option.bind_some]
  cases b <;> cases decide (RightB l) <;> rfl
end Go.Proofs.Ytkchgcefmnbebaa.X
