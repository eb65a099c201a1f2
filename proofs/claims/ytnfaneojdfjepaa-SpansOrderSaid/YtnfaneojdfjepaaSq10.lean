/- Spans, in plain words: gaps of gaps. -/
import Derived.Test.YtnfaneojdfjepaaSq9
namespace Go.Proofs.Ytnfaneojdfjepaa.X
open Go Go.RowKit Go.Proofs.YtnfaneojdfjepaaW.Rx
set_option linter.unusedVariables false
set_option linter.unusedSimpArgs false
theorem one1_mem (u v : Int) (y : Int × Int) : y ∈ one1 u v ↔ u ≤ v ∧ y = (u, v) := by
  unfold one1
  by_cases h : u ≤ v
  · rw [if_pos h]; simp [h]
  · rw [if_neg h]; simp [h]
theorem one_rise {b m : Int} (hb : b ≤ 4611686018427387903) (h0 : 0 ≤ m) : Rise m (one1 m b) ∧ ∀ y ∈ one1 m b, y.2 ≤ b := by
  constructor
  · unfold one1
    by_cases h : m ≤ b
    · rw [if_pos h]; exact ⟨Int.le_refl _, ⟨h0, h, hb⟩, trivial⟩
    · rw [if_neg h]; trivial
  · intro y hy
    rw [one1_mem] at hy
    rw [hy.2]; exact Int.le_refl _
theorem gp_cons (b m : Int) (x : Int × Int) (r : Sps) : gp b m (x :: r) = if x.2 < m then gp b m r else if b < x.1 then one1 m b else one1 m (x.1 - 1) ++ gp b (x.2 + 1) r := rfl
theorem gp_rise {b : Int} (hb : b ≤ 4611686018427387903) : ∀ (l : Sps) (w m : Int), Rise w l → 0 ≤ m → Rise m (gp b m l) ∧ ∀ y ∈ gp b m l, y.2 ≤ b
  | [], w, m, _, h0 => one_rise hb h0
  | x :: r, w, m, hr, h0 => by
    have hx := hr.2.1
    unfold Sp at hx
    unfold gp
    by_cases h1 : x.2 < m
    · rw [if_pos h1]; exact gp_rise hb r _ m hr.2.2 h0
    rw [if_neg h1]
    by_cases h2 : b < x.1
    · rw [if_pos h2]
      exact one_rise hb h0
    rw [if_neg h2]
    obtain ⟨q1, q2⟩ := gp_rise hb r _ (x.2 + 1) hr.2.2 (by omega)
    constructor
    · unfold one1
      by_cases h : m ≤ x.1 - 1
      · rw [if_pos h]
        refine ⟨Int.le_refl _, ⟨h0, h, ?_⟩, rise_mono q1 ?_⟩ <;> dsimp only <;> omega
      · rw [if_neg h]; exact rise_mono q1 (by omega)
    · intro y hy
      rcases List.mem_append.1 hy with h | h
      · rw [one1_mem] at h
        rw [h.2]; dsimp only; omega
      · exact q2 y h
theorem one1_any (n u v : Int) : (one1 u v).any (inS n) = (decide (u ≤ n) && decide (n ≤ v)) := by
  unfold one1
  by_cases h : u ≤ v
  · rw [if_pos h]; simp [inS]
  · rw [if_neg h, Bool.eq_iff_iff]; simp; omega
theorem none_below {m : Int} {l : Sps} (hr : Rise m l) {n : Int} (h : n < m) : l.any (inS n) = false := by
  rw [List.any_eq_false]
  intro y hy
  have := (rise_mem hr y hy).1
  rw [inS_iff]; omega
theorem gp_any {b : Int} (n : Int) : ∀ (l : Sps) (w m : Int), Rise w l → (gp b m l).any (inS n) = (decide (m ≤ n) && (decide (n ≤ b) && !l.any (inS n)))
  | [], w, m, _ => by unfold gp; rw [one1_any]; simp
  | x :: r, w, m, hr => by
    have hx := hr.2.1
    unfold Sp at hx
    have hlow : n ≤ x.2 + 1 → r.any (inS n) = false := fun h => none_below hr.2.2 (by omega)
    unfold gp
    rw [List.any_cons]
    by_cases h1 : x.2 < m
    · rw [if_pos h1, gp_any n r _ m hr.2.2]
      by_cases h : m ≤ n
      · have : inS n x = false := by
          cases hc : inS n x with
          | false => rfl
          | true => rw [inS_iff] at hc; omega
        rw [this, Bool.false_or]
      · rw [decide_eq_false h]; rfl
    rw [if_neg h1]
    by_cases h2 : b < x.1
    · rw [if_pos h2, one1_any]
      by_cases h : n ≤ b
      · have e1 : inS n x = false := by
          cases hc : inS n x with
          | false => rfl
          | true => rw [inS_iff] at hc; omega
        rw [e1, hlow (by omega)]; simp
      · rw [decide_eq_false h]; simp
    rw [if_neg h2, List.any_append, one1_any, gp_any n r _ (x.2 + 1) hr.2.2]
    by_cases h3 : n < x.1
    · have e1 : inS n x = false := by
        cases hc : inS n x with
        | false => rfl
        | true => rw [inS_iff] at hc; omega
      rw [e1, hlow (by omega), decide_eq_true (by omega : n ≤ x.1 - 1), decide_eq_false (by omega : ¬ x.2 + 1 ≤ n), decide_eq_true (by omega : n ≤ b)]
      cases decide (m ≤ n) <;> rfl
    · rw [decide_eq_false (by omega : ¬ n ≤ x.1 - 1)]
      by_cases h4 : n ≤ x.2
      · have e1 : inS n x = true := (inS_iff n x).2 ⟨by omega, h4⟩
        rw [e1, decide_eq_false (by omega : ¬ x.2 + 1 ≤ n)]; simp
      · have e1 : inS n x = false := by
          cases hc : inS n x with
          | false => rfl
          | true => rw [inS_iff] at hc; omega
        rw [e1, decide_eq_true (by omega : x.2 + 1 ≤ n), decide_eq_true (by omega : m ≤ n)]; simp
def sumS : Sps → Int
  | [] => 0
  | x :: r => x.2 - x.1 + 1 + sumS r
theorem sum_bound : ∀ (l : Sps) (m : Int), Rise m l → 0 ≤ sumS l ∧ (m ≤ 4611686018427387906 → sumS l + m ≤ 4611686018427387906)
  | [], m, _ => ⟨Int.le_refl _, fun h => by unfold sumS; omega⟩
  | x :: r, m, h => by
    obtain ⟨h1, h2⟩ := sum_bound r _ h.2.2
    have h3 := h.1
    have h4 := h.2.1
    unfold Sp at h4
    unfold sumS
    exact ⟨by omega, fun _ => by have := h2 (by omega); omega⟩
theorem count_sum : ∀ (l : Sps) (m n : Int), Rise m l → 0 ≤ n → n + sumS l ≤ 9223372036854775807 → countGo n l = n + sumS l
  | [], m, n, _, _, _ => by unfold countGo sumS; omega
  | x :: r, m, n, h, h0, hn => by
    have h4 := h.2.1
    unfold Sp at h4
    have h5 := (sum_bound r _ h.2.2).1
    unfold sumS at hn
    unfold countGo sumS
    rw [wrap_in (x.2 - x.1) (by omega) (by omega), wrap_in (x.2 - x.1 + 1) (by omega) (by omega), wrap_in _ (by omega) (by omega), count_sum r _ _ h.2.2 (by omega) (by omega)]
    omega
theorem sum_app : ∀ (l m : Sps), sumS (l ++ m) = sumS l + sumS m
  | [], m => by simp [sumS]
  | x :: r, m => by simp only [List.cons_append, sumS, sum_app r m]; omega
theorem sum_one (u v : Int) (h : u ≤ v + 1) : sumS (one1 u v) = v - u + 1 := by
  unfold one1
  by_cases h' : u ≤ v
  · rw [if_pos h']; simp [sumS]
  · rw [if_neg h']; unfold sumS; omega
theorem gap_sum {b : Int} : ∀ (G : Sps) (m : Int), Rise m G → (∀ y ∈ G, y.2 ≤ b) → m ≤ b + 1 → sumS (gp b m G) + sumS G = b - m + 1
  | [], m, _, _, h => by unfold gp; rw [sum_one m b h]; unfold sumS; omega
  | x :: r, m, hr, hb, h => by
    have hx := hr.2.1
    unfold Sp at hx
    have h0 := hr.1
    have h1 := hb x (by simp)
    rw [gp_cons, if_neg (by omega), if_neg (by omega), sum_app, sum_one _ _ (by omega)]
    have := gap_sum r (x.2 + 1) (rise_mono hr.2.2 (by omega)) (fun y hy => hb y (by simp [hy])) (by omega)
    rw [show sumS (x :: r) = x.2 - x.1 + 1 + sumS r from rfl]
    omega
theorem gp_more {b u v : Int} (huv : u ≤ v) : ∀ {G : Sps}, Rise v G → (gp b u G).length ≤ (gp b v G).length + 1
  | [], _ => by unfold gp; have := one1_len u b; omega
  | y :: t, h => by
    have h0 := h.1
    have hy := h.2.1
    unfold Sp at hy
    rw [gp_cons, gp_cons, if_neg (by omega : ¬ y.2 < u), if_neg (by omega : ¬ y.2 < v)]
    by_cases h2 : b < y.1
    · rw [if_pos h2, if_pos h2]
      have := one1_len u b; omega
    · rw [if_neg h2, if_neg h2, List.length_append, List.length_append]
      have := one1_len u (y.1 - 1); omega
theorem tw_one (b m : Int) : gp b m (one1 m b) = [] := by
  unfold one1
  by_cases h : m ≤ b
  · rw [if_pos h, gp_cons, if_neg (by dsimp only; omega), if_neg (by dsimp only; omega)]
    unfold gp one1
    rw [if_neg (by dsimp only; omega), if_neg (by dsimp only; omega)]; rfl
  · rw [if_neg h]
    unfold gp one1
    rw [if_neg h]
theorem gp_twice {b : Int} (hb : b ≤ 4611686018427387903) : ∀ (l : Sps) (w m : Int), Rise w l → 0 ≤ m → (gp b m (gp b m l)).length ≤ l.length
  | [], w, m, _, h0 => by
    rw [show gp b m [] = one1 m b from rfl, tw_one]; exact Nat.le_refl _
  | x :: r, w, m, hr, h0 => by
    have hx := hr.2.1
    unfold Sp at hx
    have key : (gp b m (one1 m b)).length = 0 := by rw [tw_one]; rfl
    rw [gp_cons b m x r]
    simp only [List.length_cons]
    by_cases h1 : x.2 < m
    · rw [if_pos h1]
      have := gp_twice hb r _ m hr.2.2 h0; omega
    rw [if_neg h1]
    by_cases h2 : b < x.1
    · rw [if_pos h2]; omega
    rw [if_neg h2]
    have ih := gp_twice hb r _ (x.2 + 1) hr.2.2 (by omega)
    have hR := (gp_rise hb r _ (x.2 + 1) hr.2.2 (by omega)).1
    unfold one1
    by_cases h : m ≤ x.1 - 1
    · rw [if_pos h, List.cons_append, List.nil_append]
      have := gp_more (b := b) (u := x.1 - 1 + 1) (by omega) hR
      rw [gp_cons, if_neg (by dsimp only; omega), if_neg (by dsimp only; omega)]
      unfold one1
      rw [if_neg (by dsimp only; omega), List.nil_append]
      dsimp only
      omega
    · rw [if_neg h, List.nil_append]
      have := gp_more (b := b) (u := m) (by omega) hR
      omega
theorem all_go (p : Int × Int → Bool) : ∀ l : Sps, foldE (fun (_ : Unit) (x : Int × Int) => bif p x then (some (.inl ()) : Option (Sum Unit Bool)) else some (.inr false)) (fun _ => some true) l () = some (l.all p)
  | [] => rfl
  | x :: r => by
    simp only [foldE, List.all_cons]
    cases p x
    · rfl
    · simp only [cond_true, Option.bind_some, Bool.true_and]; exact all_go p r
theorem disjoint_F {s t : Sps} (hs : s.length < 4611686018427387904) (ht : t.length < 4611686018427387904) {k : Nat} (hk : s.length < k) (hk2 : t.length < k) : law05_disjoint.F k s t = some (s.all fun x => !hasB t x.1 && !hasB t x.2) := by
  unfold law05_disjoint.F
  rw [← all_go]
  refine iter_idx s (law05_disjoint.s0 k s t) (fun j (_ : Unit) => (j : Int)) _ _ (fun j u x hx hj => ?_) (fun u => ?_) k () hk
  · have hw : IntKind.i64.wrap ((j : Int) + 1) = ((j + 1 : Nat) : Int) := by rw [wrap_in _ (by omega) (by omega)]; omega
    have hlt : decide ((j : Int) < (s.length : Int)) = true := decide_eq_true (by omega)
    simp only [law05_disjoint.s0, hlt, cond_true, getI_nat, hx, Option.bind_some, hw, refHas_F ht hk2, map_bif, Option.map_some, step_inl, step_inr]
    cases hasB t x.1 <;> cases hasB t x.2 <;> rfl
  · have hlt : decide ((s.length : Int) < (s.length : Int)) = false := decide_eq_false (by omega)
    simp only [law05_disjoint.s0, hlt, cond_false, Option.map_some]
theorem within_F {s t : Sps} (hs : s.length < 4611686018427387904) (ht : t.length < 4611686018427387904) {k : Nat} (hk : s.length < k) (hk2 : t.length < k) : law05_within.F k s t = some (s.all fun x => hasB t x.1 && hasB t x.2) := by
  unfold law05_within.F
  rw [← all_go]
  refine iter_idx s (law05_within.s0 k s t) (fun j (_ : Unit) => (j : Int)) _ _ (fun j u x hx hj => ?_) (fun u => ?_) k () hk
  · have hw : IntKind.i64.wrap ((j : Int) + 1) = ((j + 1 : Nat) : Int) := by rw [wrap_in _ (by omega) (by omega)]; omega
    have hlt : decide ((j : Int) < (s.length : Int)) = true := decide_eq_true (by omega)
    simp only [law05_within.s0, hlt, cond_true, getI_nat, hx, Option.bind_some, hw, refHas_F ht hk2, map_bif, Option.map_some, step_inl, step_inr]
    cases hasB t x.1 <;> cases hasB t x.2 <;> rfl
  · have hlt : decide ((s.length : Int) < (s.length : Int)) = false := decide_eq_false (by omega)
    simp only [law05_within.s0, hlt, cond_false, Option.map_some]
theorem twice_true {l : Sps} (hl : l.length < 4611686018427387904) (a b : Int) {k : Nat} (hk : l.length + 600 ≤ k) : law05_SpansTwice.F k l a b = some true := by
  unfold law05_SpansTwice.F
  by_cases h : RightB l ∧ Sp (a, b)
  case neg =>
    rw [(gaps_bad (k := k) (by omega) h (by omega)).1]
    simp only [Option.bind_some]
    rw [refRight_F (by omega) (by omega), refSpan_F, alive_F (by omega)]
    by_cases h1 : RightB l
    · have h2 : ¬ Sp (a, b) := fun h' => h ⟨h1, h'⟩
      rw [decide_eq_true h1, decide_eq_false h2]; rfl
    · rw [decide_eq_false h1]; rfl
  obtain ⟨hr, hab⟩ := h
  have hab' : 0 ≤ a ∧ a ≤ b ∧ b ≤ 4611686018427387903 := hab
  have hlen := hr.2
  rw [(gaps_F hr hab (k := k) (by omega)).1]
  simp only [Option.bind_some]
  obtain ⟨g1, g2⟩ := gp_rise hab'.2.2 l 0 a hr.1 hab'.1
  have hgl := gp_len b l a
  have hany := fun n => gp_any (b := b) n l 0 a hr.1
  generalize hGe : gp b a l = G at g1 g2 hgl hany ⊢
  rw [alive_F (by omega)]
  by_cases h256 : 256 < G.length
  · rw [decide_eq_true (by omega)]; rfl
  rw [decide_eq_false (by omega)]
  have hG : RightB G := ⟨rise_mono g1 hab'.1, by omega⟩
  rw [(gaps_F hG hab (k := k) (by omega)).1]
  simp only [bne_self_eq_false, cond_false, Option.bind_some, beq_self_eq_true, cond_true]
  obtain ⟨q1, q2⟩ := gp_rise hab'.2.2 G a a g1 hab'.1
  have hql := gp_len b G a
  have hany2 := fun n => gp_any (b := b) n G a a g1
  have hsum := gap_sum G a g1 g2 (by omega)
  have htw : (gp b a G).length ≤ 256 := by
    have := gp_twice hab'.2.2 l 0 a hr.1 hab'.1
    rw [hGe] at this
    omega
  generalize gp b a G = H at q1 q2 hql hany2 hsum htw ⊢
  have hGs := sum_bound G a g1
  have hHs := sum_bound H a q1
  have hHR : RightB H := ⟨rise_mono q1 hab'.1, htw⟩
  have sub : ∀ n, H.any (inS n) = true → l.any (inS n) = true ∧ G.any (inS n) = false := fun n hn => by
    rw [hany2 n] at hn
    simp only [Bool.and_eq_true, decide_eq_true_eq, Bool.not_eq_true'] at hn
    have := hany n
    rw [hn.2.2, decide_eq_true hn.1, decide_eq_true hn.2.1] at this
    refine ⟨?_, hn.2.2⟩
    simpa using this.symm
  have inself : ∀ (L : Sps) (m : Int), Rise m L → ∀ x ∈ L, L.any (inS x.1) = true ∧ L.any (inS x.2) = true := fun L m hL x hx => by
    have h2 := (rise_mem hL x hx).2
    unfold Sp at h2
    constructor
    · rw [List.any_eq_true]; exact ⟨x, hx, (inS_iff _ _).2 ⟨Int.le_refl _, h2.2.1⟩⟩
    · rw [List.any_eq_true]; exact ⟨x, hx, (inS_iff _ _).2 ⟨h2.2.1, Int.le_refl _⟩⟩
  rw [count_F (by omega) (by omega), count_F (by omega) (by omega), disjoint_F (by omega) (by omega) (by omega) (by omega), within_F (by omega) (by omega) (by omega) (by omega)]
  have c1 : countF G = sumS G := by
    unfold countF
    rw [if_pos hG, count_sum G a 0 g1 (by omega) (by omega)]; omega
  have c2 : countF H = sumS H := by
    unfold countF
    rw [if_pos hHR, count_sum H a 0 q1 (by omega) (by omega)]; omega
  have e1 : (IntKind.i64.wrap (countF G + countF H) == IntKind.i64.wrap (IntKind.i64.wrap (b - a) + 1)) = true := by
    rw [c1, c2, wrap_in (b - a) (by omega) (by omega), beq_iff_eq]
    congr 1
    omega
  have e2 : (G.all fun x => !hasB H x.1 && !hasB H x.2) = true := by
    rw [List.all_eq_true]
    intro x hx
    obtain ⟨i1, i2⟩ := inself G a g1 x hx
    have n1 : hasB H x.1 = false := by
      cases hc : hasB H x.1 with
      | false => rfl
      | true =>
        rw [hasB_any hHR] at hc
        rw [(sub _ hc).2] at i1; cases i1
    have n2 : hasB H x.2 = false := by
      cases hc : hasB H x.2 with
      | false => rfl
      | true =>
        rw [hasB_any hHR] at hc
        rw [(sub _ hc).2] at i2; cases i2
    rw [n1, n2]; rfl
  have e3 : (H.all fun x => hasB l x.1 && hasB l x.2) = true := by
    rw [List.all_eq_true]
    intro x hx
    obtain ⟨i1, i2⟩ := inself H a q1 x hx
    rw [hasB_any hr, hasB_any hr, (sub _ i1).1, (sub _ i2).1]; rfl
  simp only [Option.bind_some]
  rw [e1, e2, e3]; rfl
end Go.Proofs.Ytnfaneojdfjepaa.X
