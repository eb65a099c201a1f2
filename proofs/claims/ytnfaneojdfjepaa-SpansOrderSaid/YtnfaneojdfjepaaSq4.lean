/- Spans, in plain words: Add. -/
import Derived.Test.YtnfaneojdfjepaaSq3
namespace Go.Proofs.Ytnfaneojdfjepaa.X
open Go Go.RowKit Go.Proofs.YtnfaneojdfjepaaW.Rx
set_option linter.unusedVariables false
set_option linter.unusedSimpArgs false
theorem foldE_app {α τ ρ : Type} (g : τ → α → Option (Sum τ ρ)) (fin : τ → Option ρ) : ∀ (l m : List α) (t : τ), foldE g fin (l ++ m) t = foldE g (fun t' => foldE g fin m t') l t
  | [], m, t => rfl
  | x :: r, m, t => by
    simp only [List.cons_append, foldE]
    congr 1
    funext o
    cases o with
    | inl t' => exact foldE_app g fin r m t'
    | inr y => rfl
def res (out : Sps) : Sps × Int := if 256 < out.length then ([], 6) else (out, 0)
def loB (a : Int) (B : Sps) : Int := match B with | [] => a | x :: _ => if x.1 < a then x.1 else a
def hiB (b : Int) (B : Sps) : Int := match B.getLast? with | none => b | some x => if b < x.2 then x.2 else b
/-- The step of the document's Add. -/
def addG (a b : Int) (t : Sps × Sps × Int × Int) (x : Int × Int) : Option (Sum (Sps × Sps × Int × Int) (Sps × Int)) :=
  bif decide (x.2 < IntKind.i64.wrap (a - 1)) then (bif decide ((t.1.length + 1) * 16 ≤ 140737488355328) then some (.inl (t.1 ++ [x], t.2.1, t.2.2.1, t.2.2.2)) else none)
  else bif decide (b < IntKind.i64.wrap (x.1 - 1)) then (bif decide ((t.2.1.length + 1) * 16 ≤ 140737488355328) then some (.inl (t.1, t.2.1 ++ [x], t.2.2.1, t.2.2.2)) else none)
  else some (.inl (t.1, t.2.1, if x.1 < t.2.2.1 then x.1 else t.2.2.1, if t.2.2.2 < x.2 then x.2 else t.2.2.2))
def addE (t : Sps × Sps × Int × Int) : Option (Sps × Int) :=
  bif decide ((t.1.length + 1) * 16 ≤ 140737488355328) then (bif decide (((t.1 ++ [(t.2.2.1, t.2.2.2)]).length + t.2.1.length) * 16 ≤ 140737488355328) then (bif decide (256 < (((t.1 ++ [(t.2.2.1, t.2.2.2)] ++ t.2.1).length : Nat) : Int)) then some ([], 6) else some (t.1 ++ [(t.2.2.1, t.2.2.2)] ++ t.2.1, 0)) else none) else none
theorem refAdd_fold {l : Sps} (hl : l.length < 9223372036854775807) {k : Nat} (hk : l.length < k) (a b : Int) : iter (ref05_Add.s2 k a b l) k ([], [], 0, a, b) = foldE (addG a b) addE l ([], [], a, b) := by
  refine iter_idx l (ref05_Add.s2 k a b l) (fun j (t : Sps × Sps × Int × Int) => (t.1, t.2.1, (j : Int), t.2.2.1, t.2.2.2)) (addG a b) addE (fun j t x hx hj => ?_) (fun t => ?_) k ([], [], a, b) hk
  · have hw : IntKind.i64.wrap ((j : Int) + 1) = ((j + 1 : Nat) : Int) := by rw [wrap_in _ (by omega) (by omega)]; omega
    have hlt : decide ((j : Int) < (l.length : Int)) = true := decide_eq_true (by omega)
    simp only [ref05_Add.s2, hlt, cond_true, getI_nat, hx, Option.bind_some, hw, addG, map_bif, Option.map_some, Option.map_none, step_inl, List.length_cons, List.length_nil]
  · have hlt : decide ((l.length : Int) < (l.length : Int)) = false := decide_eq_false (by omega)
    simp only [ref05_Add.s2, hlt, cond_false, addE, map_bif, Option.map_some, Option.map_none, List.length_cons, List.length_nil]
section
variable {a b : Int} {F : Sps × Sps × Int × Int → Option (Sps × Int)}
theorem foldA (hab : Sp (a, b)) : ∀ (A : Sps) (t : Sps × Sps × Int × Int), (∀ x ∈ A, x.2 < a - 1) → t.1.length + A.length ≤ 1000 → foldE (addG a b) F A t = F (t.1 ++ A, t.2)
  | [], t, _, _ => by simp [foldE]
  | x :: r, t, h, hn => by
    have hab' : 0 ≤ a ∧ a ≤ b ∧ b ≤ 4611686018427387903 := hab
    have hx := h x (by simp)
    simp only [List.length_cons] at hn
    simp only [foldE, addG]
    rw [wrap_in (a - 1) (by omega) (by omega), decide_eq_true hx, decide_eq_true (by omega)]
    simp only [cond_true, Option.bind_some]
    rw [foldA hab r _ (fun y hy => h y (by simp [hy])) (by simp only [List.length_append, List.length_cons, List.length_nil]; omega)]
    simp
theorem foldB (hab : Sp (a, b)) : ∀ (B : Sps) (t : Sps × Sps × Int × Int), (∀ x ∈ B, Sp x ∧ a - 1 ≤ x.2 ∧ x.1 - 1 ≤ b) → foldE (addG a b) F B t = F (t.1, t.2.1, B.foldl (fun v x => if x.1 < v then x.1 else v) t.2.2.1, B.foldl (fun w x => if w < x.2 then x.2 else w) t.2.2.2)
  | [], t, _ => by simp [foldE]
  | x :: r, t, h => by
    have hab' : 0 ≤ a ∧ a ≤ b ∧ b ≤ 4611686018427387903 := hab
    obtain ⟨h1, h2, h3⟩ := h x (by simp)
    unfold Sp at h1
    simp only [foldE, addG]
    rw [wrap_in (a - 1) (by omega) (by omega), wrap_in (x.1 - 1) (by omega) (by omega), decide_eq_false (by omega : ¬ x.2 < a - 1), decide_eq_false (by omega : ¬ b < x.1 - 1)]
    simp only [cond_false, Option.bind_some]
    rw [foldB hab r _ (fun y hy => h y (by simp [hy]))]
    simp
theorem foldC (hab : Sp (a, b)) : ∀ (C : Sps) (t : Sps × Sps × Int × Int), (∀ x ∈ C, Sp x ∧ b < x.1 - 1) → t.2.1.length + C.length ≤ 1000 → foldE (addG a b) F C t = F (t.1, t.2.1 ++ C, t.2.2)
  | [], t, _, _ => by simp [foldE]
  | x :: r, t, h, hn => by
    have hab' : 0 ≤ a ∧ a ≤ b ∧ b ≤ 4611686018427387903 := hab
    obtain ⟨h1, h2⟩ := h x (by simp)
    unfold Sp at h1
    simp only [List.length_cons] at hn
    simp only [foldE, addG]
    rw [wrap_in (a - 1) (by omega) (by omega), wrap_in (x.1 - 1) (by omega) (by omega), decide_eq_false (by omega : ¬ x.2 < a - 1), decide_eq_true h2, decide_eq_true (by omega : (t.2.1.length + 1) * 16 ≤ 140737488355328)]
    simp only [cond_true, cond_false, Option.bind_some]
    rw [foldC hab r _ (fun y hy => h y (by simp [hy])) (by simp only [List.length_append, List.length_cons, List.length_nil]; omega)]
    simp
end
theorem min_stay : ∀ (B : Sps) (v : Int), (∀ y ∈ B, v ≤ y.1) → B.foldl (fun v x => if x.1 < v then x.1 else v) v = v
  | [], v, _ => rfl
  | x :: r, v, h => by
    have := h x (by simp)
    simp only [List.foldl_cons]
    rw [if_neg (by omega)]
    exact min_stay r v (fun y hy => h y (by simp [hy]))
theorem min_fold {m : Int} : ∀ (B : Sps) (a : Int), Rise m B → B.foldl (fun v x => if x.1 < v then x.1 else v) a = loB a B
  | [], a, _ => rfl
  | x :: r, a, h => by
    simp only [List.foldl_cons, loB]
    refine min_stay r _ (fun y hy => ?_)
    have h1 := (rise_mem h.2.2 y hy).1
    have h2 := h.2.1
    unfold Sp at h2
    split <;> omega
theorem max_fold {m : Int} : ∀ (B : Sps) (b : Int), Rise m B → B.foldl (fun w x => if w < x.2 then x.2 else w) b = hiB b B
  | [], b, _ => rfl
  | [x], b, _ => rfl
  | x :: y :: r, b, h => by
    rw [List.foldl_cons, max_fold (y :: r) _ h.2.2]
    unfold hiB
    rw [List.getLast?_cons_cons]
    cases hl : (y :: r).getLast? with
    | none => simp at hl
    | some z =>
      dsimp only
      have hz := rise_mem h.2.2 z (List.mem_of_getLast? hl)
      have h2 := hz.2
      unfold Sp at h2
      (repeat' split) <;> omega
theorem rise_app {m : Int} : ∀ {A B : Sps}, Rise m (A ++ B) → Rise m A ∧ ∃ m', m ≤ m' ∧ Rise m' B ∧ ∀ x ∈ A, x.2 + 2 ≤ m'
  | [], B, h => ⟨trivial, m, Int.le_refl _, h, by simp⟩
  | x :: A, B, h => by
    obtain ⟨h1, m', h2, h3, h4⟩ := rise_app (A := A) h.2.2
    have h5 := h.2.1
    have h6 := h.1
    unfold Sp at h5
    exact ⟨⟨h.1, h.2.1, h1⟩, m', by omega, h3, fun y hy => by
      rcases List.mem_cons.1 hy with rfl | hy
      · exact h2
      · exact h4 y hy⟩
theorem add1_F (k : Nat) {B : Sps} (hB : B.length < 9223372036854775807) (a b : Int) : spans_Add_1.F k B a b = some ([(loB a B, hiB b B)], a, b) := by
  unfold spans_Add_1.F
  cases hb : B with
  | nil => rfl
  | cons x r =>
    have hn : 0 < (x :: r).length := by simp
    rw [← hb] at hn ⊢
    have hw : IntKind.i64.wrap ((B.length : Int) - 1) = ((B.length - 1 : Nat) : Int) := by rw [wrap_in _ (by omega) (by omega)]; omega
    rw [decide_eq_true (by omega), hw, getI_nat, show getI B 0 = B[0]? from getI_nat B 0]
    have e1 : B[0]? = some x := by rw [hb]; rfl
    have e2 : B[B.length - 1]? = B.getLast? := (List.getLast?_eq_getElem? (l := B)).symm
    rw [e1, e2]
    unfold hiB loB
    cases hl : B.getLast? with
    | none => rw [List.getLast?_eq_none_iff] at hl; rw [hl] at hn; simp at hn
    | some z =>
      simp only [cond_true, Option.bind_some, hb]
theorem add_FC {l : Sps} (hr : RightB l) {a b : Int} (hab : Sp (a, b)) {k : Nat} (hk : 300 ≤ k) {A B C : Sps} (e : l = A ++ B ++ C) (hc : Cut a b A B C) : spans_Add.F k l a b = some (res (A ++ [(loB a B, hiB b B)] ++ C)) ∧ ref05_Add.F k l a b = some (res (A ++ [(loB a B, hiB b B)] ++ C)) := by
  have hlen := hr.2
  have hs : ∀ x ∈ A ++ B ++ C, Sp x := fun x hx => (rise_mem hr.1 x (by rw [e]; exact hx)).2
  have hlc : A.length + B.length + C.length ≤ 256 := by rw [e] at hlen; simpa [Nat.add_assoc] using hlen
  have hRB : ∃ m, Rise m B := by
    have h1 := hr.1
    rw [e, List.append_assoc] at h1
    obtain ⟨_, m', _, h2, _⟩ := rise_app h1
    exact ⟨m', (rise_app h2).1⟩
  obtain ⟨mB, hRB⟩ := hRB
  refine ⟨?_, ?_⟩
  · unfold spans_Add.F change34.F
    have hm8 : Mono (p38 a) l := mono_of hr.1 _ fun x y hx hy hxy h => by
      unfold p38 Sp at *
      simp only [decide_eq_true_eq] at *
      omega
    have hm9 : Mono (p39 b) l := mono_of hr.1 _ fun x y hx hy hxy h => by
      unfold p39 Sp at *
      simp only [decide_eq_true_eq] at *
      rw [wrap_in _ (by omega) (by omega)] at *
      omega
    rw [right_F (by omega) (by omega), isSpan_F, search38_F (by omega) (by omega) a hm8, search39_F (by omega) (by omega) b hm9, e, cut_low hab hc hs, cut_high hab hc hs, ← e, decide_eq_true hr, decide_eq_true hab]
    simp only [cond_true, Option.bind_some]
    have hl2 : (A ++ B).length = A.length + B.length := List.length_append
    have hll : l.length = A.length + B.length + C.length := by rw [e]; simp [Nat.add_assoc]
    rw [decide_eq_true (by omega), decide_eq_true (by omega), decide_eq_true (by omega)]
    simp only [cond_true, Int.toNat_natCast, Int.toNat_zero, Nat.sub_zero, List.drop_zero]
    have t1 : l.take A.length = A := by rw [e, List.append_assoc, List.take_left]
    have t2 : (l.drop A.length).take ((A ++ B).length - A.length) = B := by
      rw [e, List.append_assoc, List.drop_left, hl2, Nat.add_sub_cancel_left, List.take_left]
    have t3 : (l.drop (A ++ B).length).take (l.length - (A ++ B).length) = C := by
      rw [hll, hl2, Nat.add_sub_cancel_left, e, ← hl2, List.drop_left, List.take_length]
    rw [t1, t2, t3, add1_F k (by omega)]
    simp only [Option.bind_some]
    rw [concat3_F _ _ _ _ (by omega) (by simp only [List.length_cons, List.length_nil]; omega)]
    simp only [Option.bind_some]
    unfold res
    by_cases h : 256 < (A ++ [(loB a B, hiB b B)] ++ C).length
    · rw [decide_eq_true (by omega), if_pos h]; rfl
    · rw [decide_eq_false (by omega), if_neg h]; rfl
  · unfold ref05_Add.F
    rw [refRight_F (by omega) (by omega), refSpan_F, decide_eq_true hr, decide_eq_true hab]
    simp only [cond_true, Option.bind_some]
    rw [refAdd_fold (by omega) (by omega), e, foldE_app, foldE_app, foldA hab A _ hc.low (by simp; omega)]
    rw [foldB hab B _ (fun x hx => ⟨hs x (by simp [hx]), hc.mid x hx⟩), foldC hab C _ (fun x hx => ⟨hs x (by simp [hx]), hc.high x hx⟩) (by simp; omega)]
    rw [min_fold B a hRB, max_fold B b hRB]
    unfold addE res
    dsimp only
    rw [List.nil_append, List.nil_append, decide_eq_true (by omega), decide_eq_true (by simp only [List.length_append, List.length_cons, List.length_nil]; omega)]
    simp only [cond_true]
    by_cases h : 256 < (A ++ [(loB a B, hiB b B)] ++ C).length
    · rw [decide_eq_true (by omega), if_pos h]; rfl
    · rw [decide_eq_false (by omega), if_neg h]; rfl
theorem add_F {l : Sps} (hr : RightB l) {a b : Int} (hab : Sp (a, b)) {k : Nat} (hk : 300 ≤ k) : ∃ A B C, l = A ++ B ++ C ∧ Cut a b A B C ∧ spans_Add.F k l a b = some (res (A ++ [(loB a B, hiB b B)] ++ C)) ∧ ref05_Add.F k l a b = some (res (A ++ [(loB a B, hiB b B)] ++ C)) := by
  obtain ⟨A, B, C, e, hc⟩ := cut_of hab l 0 hr.1
  exact ⟨A, B, C, e, hc, add_FC hr hab hk e hc⟩
theorem add_bad {l : Sps} (hl : l.length < 9223372036854775807) {a b : Int} (h : ¬ (RightB l ∧ Sp (a, b))) {k : Nat} (hk : l.length < k) : spans_Add.F k l a b = some ([], 1) ∧ ref05_Add.F k l a b = some ([], 1) := by
  unfold spans_Add.F change34.F ref05_Add.F
  rw [right_F hl hk, refRight_F hl hk, isSpan_F, refSpan_F]
  by_cases h1 : RightB l
  · have h2 : ¬ Sp (a, b) := fun h' => h ⟨h1, h'⟩
    rw [decide_eq_true h1, decide_eq_false h2]
    exact ⟨rfl, rfl⟩
  · rw [decide_eq_false h1]
    exact ⟨rfl, rfl⟩
end Go.Proofs.Ytnfaneojdfjepaa.X
