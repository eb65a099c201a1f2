/- Spans, in plain words: what is in a set behind Add, and Take. -/
import Derived.Test.YtnfaneojdfjepaaSq7
namespace Go.Proofs.Ytnfaneojdfjepaa.X
open Go Go.RowKit Go.Proofs.YtnfaneojdfjepaaW.Rx
set_option linter.unusedVariables false
set_option linter.unusedSimpArgs false
theorem rise_append {m m' : Int} : ∀ {A R : Sps}, Rise m A → (∀ x ∈ A, x.2 + 2 ≤ m') → m ≤ m' → Rise m' R → Rise m (A ++ R)
  | [], R, _, _, h, hR => rise_mono hR h
  | x :: A, R, hA, hx, _, hR => ⟨hA.1, hA.2.1, rise_append hA.2.2 (fun y hy => hx y (by simp [hy])) (hx x (by simp)) hR⟩
theorem rise_from {w m : Int} : ∀ {C : Sps}, Rise w C → (∀ z ∈ C, m ≤ z.1) → Rise m C
  | [], _, _ => trivial
  | z :: C, h, hz => ⟨hz z (by simp), h.2⟩
theorem lo_spec {m a : Int} : ∀ {B : Sps}, Rise m B → loB a B ≤ a ∧ (∀ y ∈ B, loB a B ≤ y.1) ∧ (loB a B = a ∨ ∃ y ∈ B, loB a B = y.1)
  | [], _ => ⟨Int.le_refl _, by simp, Or.inl rfl⟩
  | x :: r, h => by
    have hx := h.2.1
    unfold Sp at hx
    unfold loB
    dsimp only
    refine ⟨by split <;> omega, fun y hy => ?_, ?_⟩
    · rcases List.mem_cons.1 hy with rfl | hy
      · split <;> omega
      · have := (rise_mem h.2.2 y hy).1
        split <;> omega
    · by_cases h1 : x.1 < a
      · rw [if_pos h1]; exact Or.inr ⟨x, by simp, rfl⟩
      · rw [if_neg h1]; exact Or.inl rfl
theorem rise_last {m : Int} : ∀ {B : Sps} {z : Int × Int}, Rise m B → B.getLast? = some z → ∀ y ∈ B, y.2 ≤ z.2
  | [], z, _, h, y, hy => by simp at hy
  | [x], z, _, h, y, hy => by
    simp only [List.getLast?_singleton, Option.some.injEq] at h
    simp only [List.mem_singleton] at hy
    rw [← h, hy]; exact Int.le_refl _
  | x :: u :: r, z, hr, h, y, hy => by
    rw [List.getLast?_cons_cons] at h
    rcases List.mem_cons.1 hy with rfl | hy
    · have h1 := rise_mem hr.2.2 z (List.mem_of_getLast? h)
      have h2 := h1.2
      unfold Sp at h2
      omega
    · exact rise_last hr.2.2 h y hy
theorem hi_spec {m b : Int} {B : Sps} (h : Rise m B) : b ≤ hiB b B ∧ (∀ y ∈ B, y.2 ≤ hiB b B) ∧ (hiB b B = b ∨ ∃ y ∈ B, hiB b B = y.2) := by
  unfold hiB
  cases hl : B.getLast? with
  | none =>
    rw [List.getLast?_eq_none_iff] at hl
    subst hl
    exact ⟨Int.le_refl _, by simp, Or.inl rfl⟩
  | some z =>
    dsimp only
    have hz := rise_last h hl
    refine ⟨by split <;> omega, fun y hy => ?_, ?_⟩
    · have := hz y hy
      split <;> omega
    · by_cases h1 : b < z.2
      · rw [if_pos h1]; exact Or.inr ⟨z, List.mem_of_getLast? hl, rfl⟩
      · rw [if_neg h1]; exact Or.inl rfl
theorem inS_iff (n : Int) (x : Int × Int) : inS n x = true ↔ x.1 ≤ n ∧ n ≤ x.2 := by unfold inS; simp
/-- The set behind Add. -/
theorem add_set {l A B C : Sps} {a b : Int} (hr : Rise 0 l) (hab : Sp (a, b)) (e : l = A ++ B ++ C) (hc : Cut a b A B C) : Rise 0 (A ++ [(loB a B, hiB b B)] ++ C) ∧ ∀ n, (A ++ [(loB a B, hiB b B)] ++ C).any (inS n) = ((decide (a ≤ n) && decide (n ≤ b)) || l.any (inS n)) := by
  have hab' : 0 ≤ a ∧ a ≤ b ∧ b ≤ 4611686018427387903 := hab
  rw [e, List.append_assoc] at hr
  obtain ⟨hA, m1, h01, hBC, hA1⟩ := rise_app hr
  obtain ⟨hB, m2, h12, hC, hB2⟩ := rise_app hBC
  obtain ⟨l1, l2, l3⟩ := lo_spec (a := a) hB
  obtain ⟨g1, g2, g3⟩ := hi_spec (b := b) hB
  have hB1 : ∀ y ∈ B, m1 ≤ y.1 ∧ Sp y := rise_mem hB
  constructor
  · rw [List.append_assoc]
    refine rise_append (m' := loB a B) hA (fun x hx => ?_) ?_ ⟨Int.le_refl _, ?_, rise_from hC (fun z hz => ?_)⟩
    · have h1 := hA1 x hx
      have h2 := hc.low x hx
      rcases l3 with h | ⟨y, hy, h⟩
      · omega
      · have := (hB1 y hy).1; omega
    · rcases l3 with h | ⟨y, hy, h⟩
      · omega
      · have := (hB1 y hy).1; omega
    · unfold Sp
      dsimp only
      refine ⟨?_, by omega, ?_⟩
      · rcases l3 with h | ⟨y, hy, h⟩
        · omega
        · have := (hB1 y hy).1; omega
      · rcases g3 with h | ⟨y, hy, h⟩
        · omega
        · have := (hB1 y hy).2
          unfold Sp at this
          omega
    · have h1 := (rise_mem hC z hz).1
      have h2 := hc.high z hz
      dsimp only
      rcases g3 with h | ⟨y, hy, h⟩
      · omega
      · have := hB2 y hy; omega
  · intro n
    have key : inS n (loB a B, hiB b B) = ((decide (a ≤ n) && decide (n ≤ b)) || B.any (inS n)) := by
      rw [Bool.eq_iff_iff, Bool.or_eq_true, Bool.and_eq_true, decide_eq_true_eq, decide_eq_true_eq, List.any_eq_true, inS_iff]
      dsimp only
      constructor
      · rintro ⟨h1, h2⟩
        by_cases h3 : a ≤ n
        · by_cases h4 : n ≤ b
          · exact Or.inl ⟨h3, h4⟩
          · rcases g3 with h | ⟨y, hy, h⟩
            · omega
            · have := (hc.mid y hy).2
              exact Or.inr ⟨y, hy, (inS_iff n y).2 ⟨by omega, by omega⟩⟩
        · rcases l3 with h | ⟨y, hy, h⟩
          · omega
          · have := (hc.mid y hy).1
            exact Or.inr ⟨y, hy, (inS_iff n y).2 ⟨by omega, by omega⟩⟩
      · rintro (⟨h1, h2⟩ | ⟨y, hy, h⟩)
        · omega
        · have h1 := l2 y hy
          have h2 := g2 y hy
          rw [inS_iff] at h
          omega
    rw [e]
    simp only [List.any_append, List.any_cons, List.any_nil, Bool.or_false, key]
    cases A.any (inS n) <;> cases B.any (inS n) <;> cases C.any (inS n) <;> simp
/-- The set behind Take. -/
theorem take_pieces {a b : Int} (hab : Sp (a, b)) {m : Int} {x : Int × Int} {T : Sps} (hm : m ≤ x.1) (hx : Sp x) (hT : Rise (x.2 + 2) T) : Rise m (pL a x ++ (pR b x ++ T)) := by
  have hab' : 0 ≤ a ∧ a ≤ b ∧ b ≤ 4611686018427387903 := hab
  unfold Sp at hx
  have hRp : ∀ m', (m' ≤ x.1 ∨ m' ≤ b + 1) → m' ≤ x.2 + 2 → Rise m' (pR b x ++ T) := fun m' h1 h2 => by
    unfold pR one1
    by_cases h : (if x.1 < b + 1 then b + 1 else x.1) ≤ x.2
    · rw [if_pos h]
      refine ⟨?_, ?_, hT⟩
      · dsimp only; split <;> omega
      · unfold Sp; dsimp only; split <;> omega
    · rw [if_neg h]; exact rise_mono hT h2
  unfold pL one1
  by_cases h : x.1 ≤ if a - 1 < x.2 then a - 1 else x.2
  · rw [if_pos h]
    refine ⟨hm, ?_, ?_⟩
    · unfold Sp; dsimp only; split <;> omega
    · dsimp only
      refine hRp _ ?_ ?_ <;> split <;> omega
  · rw [if_neg h]; exact hRp m (Or.inl hm) (by omega)
theorem rise_take {a b : Int} (hab : Sp (a, b)) : ∀ (l : Sps) (m : Int), Rise m l → Rise m (l.flatMap (fun x => pL a x ++ pR b x))
  | [], m, h => trivial
  | x :: r, m, h => by
    rw [List.flatMap_cons, List.append_assoc]
    exact take_pieces hab h.1 h.2.1 (rise_take hab r _ h.2.2)
theorem piece_any {a b : Int} (hab : Sp (a, b)) (n : Int) (x : Int × Int) : (pL a x ++ pR b x).any (inS n) = (!(decide (a ≤ n) && decide (n ≤ b)) && inS n x) := by
  have hab' : 0 ≤ a ∧ a ≤ b ∧ b ≤ 4611686018427387903 := hab
  have one : ∀ u v : Int, (one1 u v).any (inS n) = (decide (u ≤ n) && decide (n ≤ v)) := fun u v => by
    unfold one1
    by_cases h : u ≤ v
    · rw [if_pos h]; simp [inS]
    · rw [if_neg h, Bool.eq_iff_iff]; simp; omega
  rw [List.any_append]
  unfold pL pR
  rw [one, one]
  unfold inS
  rw [Bool.eq_iff_iff]
  simp only [Bool.or_eq_true, Bool.and_eq_true, decide_eq_true_eq, Bool.not_eq_true', Bool.and_eq_false_iff, decide_eq_false_iff_not]
  constructor
  · rintro (⟨h1, h2⟩ | ⟨h1, h2⟩)
    · revert h2; split <;> omega
    · revert h1; split <;> omega
  · rintro ⟨h1 | h1, h2, h3⟩
    · left; refine ⟨h2, ?_⟩; split <;> omega
    · right; refine ⟨?_, h3⟩; split <;> omega
theorem any_flat {f : Int × Int → Sps} {p q : Int × Int → Bool} {c : Bool} (h : ∀ x, (f x).any p = (c && q x)) : ∀ l : Sps, (l.flatMap f).any p = (c && l.any q)
  | [] => by simp
  | x :: r => by rw [List.flatMap_cons, List.any_append, h, any_flat h r, List.any_cons]; cases c <;> simp
theorem take_set {l A B C : Sps} {a b : Int} (hr : Rise 0 l) (hab : Sp (a, b)) (e : l = A ++ B ++ C) (hc : Cut a b A B C) : A ++ B.flatMap (pL a) ++ (B.flatMap (pR b) ++ C) = l.flatMap (fun x => pL a x ++ pR b x) := by
  have hab' : 0 ≤ a ∧ a ≤ b ∧ b ≤ 4611686018427387903 := hab
  have hs : ∀ x ∈ A ++ B ++ C, Sp x := fun x hx => (rise_mem hr x (by rw [e]; exact hx)).2
  have hRB : ∃ m, Rise m B := by
    have h1 := hr
    rw [e, List.append_assoc] at h1
    obtain ⟨_, m', _, h2, _⟩ := rise_app h1
    exact ⟨m', (rise_app h2).1⟩
  obtain ⟨mB, hRB⟩ := hRB
  have eA : A.flatMap (fun x => pL a x ++ pR b x) = A := flat_self fun x hx => by
    have h1 := hc.low x hx
    have h2 := hs x (by simp [hx])
    unfold Sp at h2
    unfold pL pR one1
    rw [if_neg (by omega : ¬ a - 1 < x.2), if_pos (by omega), if_pos (by omega : x.1 < b + 1), if_neg (by omega)]; rfl
  have eC : C.flatMap (fun x => pL a x ++ pR b x) = C := flat_self fun x hx => by
    have h1 := hc.high x hx
    have h2 := hs x (by simp [hx])
    unfold Sp at h2
    unfold pL pR one1
    rw [if_pos (by omega : a - 1 < x.2), if_neg (by omega), if_neg (by omega : ¬ x.1 < b + 1), if_pos (by omega)]; rfl
  rw [e, List.flatMap_append, List.flatMap_append, eA, eC, flat_two hRB hc.mid]
  simp only [List.append_assoc]
theorem hasB_any {l : Sps} (h : RightB l) (n : Int) : hasB l n = l.any (inS n) := by unfold hasB; rw [decide_eq_true h]; rfl
theorem addH {l : Sps} {a b n : Int} {k : Nat} (hl : l.length < 4611686018427387904) (hk : l.length + 300 ≤ k) : ∃ s e, spans_Add.F k l a b = some (s, e) ∧ s.length ≤ 256 ∧ (e = 0 → RightB s ∧ hasB s n = ((decide (a ≤ n) && decide (n ≤ b)) || hasB l n)) := by
  by_cases h : RightB l ∧ Sp (a, b)
  · obtain ⟨A, B, C, e, hc, h1, h2⟩ := add_F h.1 h.2 (k := k) (by omega)
    obtain ⟨q1, q2⟩ := add_set h.1.1 h.2 e hc
    refine ⟨(res (A ++ [(loB a B, hiB b B)] ++ C)).1, (res (A ++ [(loB a B, hiB b B)] ++ C)).2, h1, res_len _, fun h0 => ?_⟩
    unfold res at h0 ⊢
    by_cases h3 : 256 < (A ++ [(loB a B, hiB b B)] ++ C).length
    · rw [if_pos h3] at h0; cases h0
    · rw [if_neg h3]
      have hR : RightB (A ++ [(loB a B, hiB b B)] ++ C) := ⟨q1, by omega⟩
      exact ⟨hR, by rw [hasB_any hR, hasB_any h.1, q2 n]⟩
  · exact ⟨[], 1, (add_bad (by omega) h (by omega)).1, by simp, fun h => by cases h⟩
theorem takeH {l : Sps} {a b n : Int} {k : Nat} (hl : l.length < 4611686018427387904) (hk : l.length + 300 ≤ k) : ∃ s e, spans_Take.F k l a b = some (s, e) ∧ s.length ≤ 256 ∧ (e = 0 → RightB s ∧ hasB s n = (!(decide (a ≤ n) && decide (n ≤ b)) && hasB l n)) := by
  by_cases h : RightB l ∧ Sp (a, b)
  · obtain ⟨A, B, C, e, hc, h1, h2⟩ := take_F h.1 h.2 (k := k) (by omega)
    have q := take_set h.1.1 h.2 e hc
    rw [q] at h1
    refine ⟨(res (l.flatMap (fun x => pL a x ++ pR b x))).1, (res (l.flatMap (fun x => pL a x ++ pR b x))).2, h1, res_len _, fun h0 => ?_⟩
    unfold res at h0 ⊢
    by_cases h3 : 256 < (l.flatMap (fun x => pL a x ++ pR b x)).length
    · rw [if_pos h3] at h0; cases h0
    · rw [if_neg h3]
      have hR : RightB (l.flatMap (fun x => pL a x ++ pR b x)) := ⟨rise_take h.2 l 0 h.1.1, by omega⟩
      exact ⟨hR, by rw [hasB_any hR, hasB_any h.1]; exact any_flat (piece_any h.2 n) l⟩
  · exact ⟨[], 1, (take_bad (by omega) h (by omega)).1, by simp, fun h => by cases h⟩
theorem in_true {l : Sps} (hl : l.length < 4611686018427387904) (a b n : Int) {k : Nat} (hk : l.length + 300 ≤ k) : law05_SpansIn.F k l a b n = some true := by
  obtain ⟨s, e, h1, hs, h2⟩ := addH (l := l) (a := a) (b := b) (n := n) hl hk
  obtain ⟨t, f, h3, ht, h4⟩ := takeH (l := l) (a := a) (b := b) (n := n) hl hk
  unfold law05_SpansIn.F
  rw [h1, h3]
  simp only [Option.bind_some]
  rw [refRight_F (by omega) (by omega), refRight_F (by omega) (by omega), refHas_F (by omega) (by omega), refHas_F (by omega) (by omega), refHas_F hl (by omega), alive_F (by omega)]
  simp only [Option.bind_some, cond_true]
  by_cases he : e = 0 <;> by_cases hf : f = 0
  · obtain ⟨r1, r2⟩ := h2 he
    obtain ⟨r3, r4⟩ := h4 hf
    rw [r2, r4, decide_eq_true r1, decide_eq_true r3, he, hf]
    cases decide (a ≤ n) <;> cases decide (n ≤ b) <;> cases hasB l n <;> rfl
  · obtain ⟨r1, r2⟩ := h2 he
    have hf' : (f == 0) = false := by simpa using hf
    rw [r2, decide_eq_true r1, he, hf']
    cases decide (a ≤ n) <;> cases decide (n ≤ b) <;> cases hasB l n <;> rfl
  · obtain ⟨r3, r4⟩ := h4 hf
    have he' : (e == 0) = false := by simpa using he
    rw [r4, decide_eq_true r3, hf, he']
    cases decide (a ≤ n) <;> cases decide (n ≤ b) <;> cases hasB l n <;> rfl
  · have he' : (e == 0) = false := by simpa using he
    have hf' : (f == 0) = false := by simpa using hf
    rw [he', hf']
    cases decide (a ≤ n) <;> cases decide (n ≤ b) <;> rfl
end Go.Proofs.Ytnfaneojdfjepaa.X
