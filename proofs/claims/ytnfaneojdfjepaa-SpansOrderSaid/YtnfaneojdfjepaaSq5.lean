/- Spans, in plain words: Take. -/
import Derived.Test.YtnfaneojdfjepaaSq4
namespace Go.Proofs.Ytnfaneojdfjepaa.X
open Go Go.RowKit Go.Proofs.YtnfaneojdfjepaaW.Rx
set_option linter.unusedVariables false
set_option linter.unusedSimpArgs false
/-- A span, if it is one. -/
def one1 (u v : Int) : Sps := if u ≤ v then [(u, v)] else []
theorem one1_len (u v : Int) : (one1 u v).length ≤ 1 := by unfold one1; split <;> simp
def pL (a : Int) (x : Int × Int) : Sps := one1 x.1 (if a - 1 < x.2 then a - 1 else x.2)
def pR (b : Int) (x : Int × Int) : Sps := one1 (if x.1 < b + 1 then b + 1 else x.1) x.2
def pC (p q : Int) (x : Int × Int) : Sps := one1 (if x.1 < p then p else x.1) (if q < x.2 then q else x.2)
theorem flat_len {f : Int × Int → Sps} {n : Nat} (h : ∀ x, (f x).length ≤ n) : ∀ B : Sps, (B.flatMap f).length ≤ n * B.length
  | [] => by simp
  | x :: r => by
    have := flat_len h r
    have := h x
    simp only [List.flatMap_cons, List.length_append, List.length_cons, Nat.mul_add]; omega
theorem clip_go (p q : Int) : ∀ (l : Sps) (s : Sps), s.length + l.length ≤ 1000 → foldE (fun (s : Sps) (x : Int × Int) => bif decide ((if x.1 < p then p else x.1) ≤ if q < x.2 then q else x.2) then (bif decide ((s.length + 1) * 16 ≤ 140737488355328) then some (.inl (s ++ [(if x.1 < p then p else x.1, if q < x.2 then q else x.2)])) else none) else some (.inl s)) (fun s => (some s : Option Sps)) l s = some (s ++ l.flatMap (pC p q))
  | [], s, _ => by simp [foldE]
  | x :: r, s, hn => by
    simp only [List.length_cons] at hn
    simp only [foldE, List.flatMap_cons]
    by_cases h : (if x.1 < p then p else x.1) ≤ if q < x.2 then q else x.2
    · rw [decide_eq_true h, decide_eq_true (by omega : (s.length + 1) * 16 ≤ 140737488355328)]
      simp only [cond_true, Option.bind_some]
      rw [clip_go p q r _ (by simp only [List.length_append, List.length_cons, List.length_nil]; omega)]
      have : pC p q x = [(if x.1 < p then p else x.1, if q < x.2 then q else x.2)] := by unfold pC one1; rw [if_pos h]
      rw [this]; simp
    · rw [decide_eq_false h]
      simp only [cond_false, Option.bind_some]
      rw [clip_go p q r _ (by omega)]
      have : pC p q x = [] := by unfold pC one1; rw [if_neg h]
      rw [this]; simp
theorem clip_F {l : Sps} (hl : l.length ≤ 1000) {k : Nat} (hk : l.length < k) (p q : Int) : ref05_clip.F k l p q = some (l.flatMap (pC p q)) := by
  unfold ref05_clip.F
  refine (iter_idx l (ref05_clip.s0 k p q l) (fun j (s : Sps) => (s, (j : Int))) _ _ (fun j s x hx hj => ?_) (fun s => ?_) k [] hk).trans ((clip_go p q l [] (by simpa using hl)).trans (by simp))
  · have hw : IntKind.i64.wrap ((j : Int) + 1) = ((j + 1 : Nat) : Int) := by rw [wrap_in _ (by omega) (by omega)]; omega
    have hlt : decide ((j : Int) < (l.length : Int)) = true := decide_eq_true (by omega)
    simp only [ref05_clip.s0, hlt, cond_true, getI_nat, hx, Option.bind_some, hw, map_bif, Option.map_some, Option.map_none, step_inl, List.length_cons, List.length_nil]
  · have hlt : decide ((l.length : Int) < (l.length : Int)) = false := decide_eq_false (by omega)
    simp only [ref05_clip.s0, hlt, cond_false, Option.map_some]
/-- What one span leaves. -/
theorem take_in {a b : Int} (hab : Sp (a, b)) (x : Int × Int) (v : Int) (s : Sps) (hs : s.length ≤ 1000) {k : Nat} (hk : 3 ≤ k) : iter (spans_Take_1.s3 k x a b v) k (s, 0) = some (.inl (s ++ (pL a x ++ pR b x), IntKind.i64.wrap (v + 1))) := by
  have hab' : 0 ≤ a ∧ a ≤ b ∧ b ≤ 4611686018427387903 := hab
  obtain ⟨k, rfl⟩ : ∃ m, k = m + 3 := ⟨k - 3, by omega⟩
  have wa : IntKind.i64.wrap (a - 1) = a - 1 := wrap_in _ (by omega) (by omega)
  have wb : IntKind.i64.wrap (b + 1) = b + 1 := wrap_in _ (by omega) (by omega)
  have w1 : IntKind.i64.wrap ((0 : Int) + 1) = 1 := by decide
  have w2 : IntKind.i64.wrap ((1 : Int) + 1) = 2 := by decide
  have d0 : decide ((0 : Int) < 2) = true := rfl
  have d1 : decide ((1 : Int) < 2) = true := rfl
  have d2 : decide ((2 : Int) < 2) = false := rfl
  generalize hT : ([(x.1, if a - 1 < x.2 then a - 1 else x.2), (if x.1 < b + 1 then b + 1 else x.1, x.2)] : Sps) = T
  have lT : ((T.length : Nat) : Int) = 2 := by rw [← hT]; rfl
  have g0 : getI T 0 = some (x.1, if a - 1 < x.2 then a - 1 else x.2) := by rw [← hT]; rfl
  have g1 : getI T 1 = some (if x.1 < b + 1 then b + 1 else x.1, x.2) := by rw [← hT]; rfl
  have q : ∀ s : Sps, s.length ≤ 1001 → decide ((s.length + 1) * 16 ≤ 140737488355328) = true := fun s h => decide_eq_true (by omega)
  unfold pL pR one1
  simp only [iter, spans_Take_1.s3, wa, wb, hT, lT, d0, cond_true, g0, Option.bind_some, List.length_cons, List.length_nil, Nat.zero_add]
  by_cases h1 : x.1 ≤ if a - 1 < x.2 then a - 1 else x.2
  · rw [decide_eq_true h1, if_pos h1, q s (by omega)]
    simp only [cond_true, Option.bind_some, w1, d1, g1]
    by_cases h2 : (if x.1 < b + 1 then b + 1 else x.1) ≤ x.2
    · rw [decide_eq_true h2, if_pos h2, q _ (by simp only [List.length_append, List.length_cons, List.length_nil]; omega)]
      simp only [cond_true, Option.bind_some, w2, d2, cond_false, List.append_assoc]
    · rw [decide_eq_false h2, if_neg h2]
      simp only [cond_false, Option.bind_some, w2, d2, List.append_nil]
  · rw [decide_eq_false h1, if_neg h1]
    simp only [cond_false, Option.bind_some, w1, d1, cond_true, g1]
    by_cases h2 : (if x.1 < b + 1 then b + 1 else x.1) ≤ x.2
    · rw [decide_eq_true h2, if_pos h2, q _ (by omega)]
      simp only [cond_true, Option.bind_some, w2, d2, cond_false, List.nil_append]
    · rw [decide_eq_false h2, if_neg h2]
      simp only [cond_false, Option.bind_some, w2, d2, List.append_nil]
theorem take_at {a b : Int} (hab : Sp (a, b)) {B : Sps} (hB : B.length ≤ 300) {k : Nat} (hk : 3 ≤ k) : ∀ (q j : Nat) (s : Sps), j ≤ B.length → B.length - j < q → s.length ≤ 2 * j → iter (spans_Take_1.s0 k B a b) q (s, (j : Int)) = some (s ++ (B.drop j).flatMap (fun x => pL a x ++ pR b x), a, b) := by
  intro q
  induction q with
  | zero => intro j s _ h; omega
  | succ q ih =>
    intro j s hj hq hs
    simp only [iter]
    rcases Nat.lt_or_ge j B.length with h | h
    · have hw : IntKind.i64.wrap ((j : Int) + 1) = ((j + 1 : Nat) : Int) := by rw [wrap_in _ (by omega) (by omega)]; omega
      have hlt : decide ((j : Int) < (B.length : Int)) = true := decide_eq_true (by omega)
      simp only [spans_Take_1.s0, hlt, cond_true, getI_nat, List.getElem?_eq_getElem h, Option.bind_some]
      rw [take_in hab _ _ s (by omega) hk, hw]
      simp only [Option.bind_some]
      rw [ih (j + 1) _ h (by omega) (by
        have h1 := one1_len B[j].1 (if a - 1 < B[j].2 then a - 1 else B[j].2)
        have h2 := one1_len (if B[j].1 < b + 1 then b + 1 else B[j].1) B[j].2
        simp only [List.length_append, pL, pR]; omega)]
      rw [List.drop_eq_getElem_cons h, List.flatMap_cons]
      simp only [List.append_assoc]
    · have : j = B.length := by omega
      subst this
      have hlt : decide ((B.length : Int) < (B.length : Int)) = false := decide_eq_false (by omega)
      simp only [spans_Take_1.s0, hlt, cond_false, Option.bind_some]
      rw [List.drop_length]; simp
theorem flat_two {m a b : Int} : ∀ {B : Sps}, Rise m B → (∀ x ∈ B, a - 1 ≤ x.2 ∧ x.1 - 1 ≤ b) → B.flatMap (fun x => pL a x ++ pR b x) = B.flatMap (pL a) ++ B.flatMap (pR b)
  | [], _, _ => rfl
  | [x], _, _ => by simp
  | x :: y :: r, h, hm => by
    have ih := flat_two h.2.2 (fun z hz => hm z (by simp [hz]))
    have h1 := h.2.2.1
    have h2 := (hm y (by simp)).2
    have h3 := h.2.1
    unfold Sp at h3
    have e : pR b x = [] := by
      unfold pR one1
      rw [if_neg]
      split <;> omega
    rw [List.flatMap_cons, ih, List.flatMap_cons, List.flatMap_cons (x := x) (f := pR b), e]
    simp
theorem flat_congr {f g : Int × Int → Sps} : ∀ {l : Sps}, (∀ x ∈ l, f x = g x) → l.flatMap f = l.flatMap g
  | [], _ => rfl
  | x :: r, h => by rw [List.flatMap_cons, List.flatMap_cons, h x (by simp), flat_congr (fun y hy => h y (by simp [hy]))]
theorem flat_self {f : Int × Int → Sps} : ∀ {l : Sps}, (∀ x ∈ l, f x = [x]) → l.flatMap f = l
  | [], _ => rfl
  | x :: r, h => by rw [List.flatMap_cons, h x (by simp), flat_self (fun y hy => h y (by simp [hy]))]; rfl
theorem clipL {a b : Int} (hab : Sp (a, b)) {A B C : Sps} (hc : Cut a b A B C) (hs : ∀ x ∈ A ++ B ++ C, Sp x) : (A ++ B ++ C).flatMap (pC 0 (a - 1)) = A ++ B.flatMap (pL a) := by
  have hab' : 0 ≤ a ∧ a ≤ b ∧ b ≤ 4611686018427387903 := hab
  rw [List.flatMap_append, List.flatMap_append]
  have e1 : A.flatMap (pC 0 (a - 1)) = A := by
    have : ∀ x ∈ A, pC 0 (a - 1) x = [x] := fun x hx => by
      have h1 := hc.low x hx
      have h2 := hs x (by simp [hx])
      unfold Sp at h2
      unfold pC one1
      rw [if_neg (by omega : ¬ x.1 < 0), if_neg (by omega : ¬ a - 1 < x.2), if_pos (by omega)]
    exact flat_self this
  have e2 : B.flatMap (pC 0 (a - 1)) = B.flatMap (pL a) := flat_congr fun x hx => by
    have h2 := hs x (by simp [hx])
    unfold Sp at h2
    unfold pC pL
    rw [if_neg (by omega : ¬ x.1 < 0)]
  have e3 : C.flatMap (pC 0 (a - 1)) = [] := by
    rw [List.flatMap_eq_nil_iff]
    intro x hx
    have h1 := hc.high x hx
    have h2 := hs x (by simp [hx])
    unfold Sp at h2
    unfold pC one1
    rw [if_neg (by omega : ¬ x.1 < 0), if_pos (by omega : a - 1 < x.2), if_neg (by omega)]
  rw [e1, e2, e3, List.append_nil]
theorem clipR {a b : Int} (hab : Sp (a, b)) {A B C : Sps} (hc : Cut a b A B C) (hs : ∀ x ∈ A ++ B ++ C, Sp x) : (A ++ B ++ C).flatMap (pC (b + 1) 4611686018427387903) = B.flatMap (pR b) ++ C := by
  have hab' : 0 ≤ a ∧ a ≤ b ∧ b ≤ 4611686018427387903 := hab
  rw [List.flatMap_append, List.flatMap_append]
  have e1 : C.flatMap (pC (b + 1) 4611686018427387903) = C := by
    have : ∀ x ∈ C, pC (b + 1) 4611686018427387903 x = [x] := fun x hx => by
      have h1 := hc.high x hx
      have h2 := hs x (by simp [hx])
      unfold Sp at h2
      unfold pC one1
      rw [if_neg (by omega : ¬ x.1 < b + 1), if_neg (by omega : ¬ 4611686018427387903 < x.2), if_pos (by omega)]
    exact flat_self this
  have e2 : B.flatMap (pC (b + 1) 4611686018427387903) = B.flatMap (pR b) := flat_congr fun x hx => by
    have h2 := hs x (by simp [hx])
    unfold Sp at h2
    unfold pC pR
    rw [if_neg (by omega : ¬ 4611686018427387903 < x.2)]
  have e3 : A.flatMap (pC (b + 1) 4611686018427387903) = [] := by
    rw [List.flatMap_eq_nil_iff]
    intro x hx
    have h1 := hc.low x hx
    have h2 := hs x (by simp [hx])
    unfold Sp at h2
    unfold pC one1
    rw [if_pos (by omega : x.1 < b + 1), if_neg (by omega : ¬ 4611686018427387903 < x.2), if_neg (by omega)]
  rw [e3, e2, e1, List.nil_append]
theorem take_F {l : Sps} (hr : RightB l) {a b : Int} (hab : Sp (a, b)) {k : Nat} (hk : 300 ≤ k) : ∃ A B C, l = A ++ B ++ C ∧ Cut a b A B C ∧ spans_Take.F k l a b = some (res (A ++ B.flatMap (pL a) ++ (B.flatMap (pR b) ++ C))) ∧ ref05_Take.F k l a b = some (res (A ++ B.flatMap (pL a) ++ (B.flatMap (pR b) ++ C))) := by
  have hab' : 0 ≤ a ∧ a ≤ b ∧ b ≤ 4611686018427387903 := hab
  obtain ⟨A, B, C, e, hc⟩ := cut_of hab l 0 hr.1
  have hlen := hr.2
  have hs : ∀ x ∈ A ++ B ++ C, Sp x := fun x hx => (rise_mem hr.1 x (by rw [e]; exact hx)).2
  have hlc : A.length + B.length + C.length ≤ 256 := by rw [e] at hlen; simpa [Nat.add_assoc] using hlen
  have hRB : ∃ m, Rise m B := by
    have h1 := hr.1
    rw [e, List.append_assoc] at h1
    obtain ⟨_, m', _, h2, _⟩ := rise_app h1
    exact ⟨m', (rise_app h2).1⟩
  obtain ⟨mB, hRB⟩ := hRB
  have hL : (B.flatMap (pL a)).length ≤ 1 * B.length := flat_len (fun x => one1_len _ _) B
  have hR : (B.flatMap (pR b)).length ≤ 1 * B.length := flat_len (fun x => one1_len _ _) B
  refine ⟨A, B, C, e, hc, ?_, ?_⟩
  · unfold spans_Take.F change35.F
    have hm8 : Mono (p38 a) l := mono_of hr.1 _ fun x y hx hy hxy h => by
      unfold p38 Sp at *
      simp only [decide_eq_true_eq] at *
      omega
    have hm9 : Mono (p39 b) l := mono_of hr.1 _ fun x y hx hy hxy h => by
      unfold p39 Sp at *
      simp only [decide_eq_true_eq] at *
      rw [wrap_in _ (by omega) (by omega)] at *
      omega
    rw [right_F (by omega) (by omega), isSpan_F, search38_F (by omega) (by omega) a hm8, search39_F (by omega) (by omega) b hm9, e, cut_low hab hc hs, cut_high hab hc hs, ← e, decide_eq_true hr, decide_eq_true hab]
    simp only [cond_true, Option.bind_some]
    have hl2 : (A ++ B).length = A.length + B.length := List.length_append
    have hll : l.length = A.length + B.length + C.length := by rw [e]; simp [Nat.add_assoc]
    rw [decide_eq_true (by omega), decide_eq_true (by omega), decide_eq_true (by omega)]
    simp only [cond_true, Int.toNat_natCast, Int.toNat_zero, Nat.sub_zero, List.drop_zero]
    have t1 : l.take A.length = A := by rw [e, List.append_assoc, List.take_left]
    have t2 : (l.drop A.length).take ((A ++ B).length - A.length) = B := by
      rw [e, List.append_assoc, List.drop_left, hl2, Nat.add_sub_cancel_left, List.take_left]
    have t3 : (l.drop (A ++ B).length).take (l.length - (A ++ B).length) = C := by
      rw [hll, hl2, Nat.add_sub_cancel_left, e, ← hl2, List.drop_left, List.take_length]
    have ht : spans_Take_1.F k B a b = some (B.flatMap (fun x => pL a x ++ pR b x), a, b) := by
      unfold spans_Take_1.F
      have := take_at hab (B := B) (by omega) (by omega : 3 ≤ k) k 0 [] (Nat.zero_le _) (by omega) (by simp)
      simpa using this
    rw [t1, t2, t3, ht, flat_two hRB hc.mid]
    simp only [Option.bind_some]
    rw [concat3_F _ _ _ _ (by omega) (by simp only [List.length_append]; omega)]
    simp only [Option.bind_some]
    have ea : A ++ (B.flatMap (pL a) ++ B.flatMap (pR b)) ++ C = A ++ B.flatMap (pL a) ++ (B.flatMap (pR b) ++ C) := by simp only [List.append_assoc]
    rw [ea]
    unfold res
    by_cases h : 256 < (A ++ B.flatMap (pL a) ++ (B.flatMap (pR b) ++ C)).length
    · rw [decide_eq_true (by omega), if_pos h]; rfl
    · rw [decide_eq_false (by omega), if_neg h]; rfl
  · unfold ref05_Take.F
    rw [refRight_F (by omega) (by omega), refSpan_F, decide_eq_true hr, decide_eq_true hab]
    simp only [cond_true, Option.bind_some]
    rw [wrap_in (a - 1) (by omega) (by omega), wrap_in (b + 1) (by omega) (by omega), clip_F (by omega) (by omega), clip_F (by omega) (by omega), e, clipL hab hc hs, clipR hab hc hs]
    simp only [Option.bind_some]
    rw [decide_eq_true (by simp only [List.length_append]; omega)]
    simp only [cond_true]
    unfold res
    by_cases h : 256 < (A ++ B.flatMap (pL a) ++ (B.flatMap (pR b) ++ C)).length
    · rw [decide_eq_true (by omega), if_pos h]; rfl
    · rw [decide_eq_false (by omega), if_neg h]; rfl
theorem take_bad {l : Sps} (hl : l.length < 9223372036854775807) {a b : Int} (h : ¬ (RightB l ∧ Sp (a, b))) {k : Nat} (hk : l.length < k) : spans_Take.F k l a b = some ([], 1) ∧ ref05_Take.F k l a b = some ([], 1) := by
  unfold spans_Take.F change35.F ref05_Take.F
  rw [right_F hl hk, refRight_F hl hk, isSpan_F, refSpan_F]
  by_cases h1 : RightB l
  · have h2 : ¬ Sp (a, b) := fun h' => h ⟨h1, h'⟩
    rw [decide_eq_true h1, decide_eq_false h2]
    exact ⟨rfl, rfl⟩
  · rw [decide_eq_false h1]
    exact ⟨rfl, rfl⟩
end Go.Proofs.Ytnfaneojdfjepaa.X
