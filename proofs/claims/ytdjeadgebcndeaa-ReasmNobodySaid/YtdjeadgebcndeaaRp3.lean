/- Reasm: in plain words: what came is told anew; bytes are put. -/
import Derived.Test.YtdjeadgebcndeaaRp2
namespace Go.Proofs.Ytdjeadgebcndeaa.X
open Go Go.Proofs.YtdjeadgebcndeaaW.Rx
set_option linter.unusedVariables false
set_option linter.unusedSimpArgs false
/-- What came, with more. -/
structure InsOK (b f t : Int) (l r : List Sp) : Prop where
  rt : Rt b r
  mem : ∀ o, Mem o r ↔ Mem o l ∨ (f ≤ o ∧ o ≤ t)
theorem ins_none {b f t : Int} {l : List Sp} (h : Rt b l) (hb : b ≤ f) (hft : f ≤ t) (lo : Nat) (hl : lo ≤ l.length) (h1 : ∀ j x, j < lo → l[j]? = some x → x.2 < f - 1) (h2 : ∀ j x, lo ≤ j → l[j]? = some x → t + 1 < x.1) : InsOK b f t l (l.take lo ++ [(f, t)] ++ l.drop lo) := by
  have hP : ∀ x ∈ l.take lo, x.2 < f - 1 ∧ x ∈ l := fun x hx => by
    obtain ⟨j, hj⟩ := List.mem_iff_getElem?.1 hx
    rw [List.getElem?_take] at hj
    split at hj
    · exact ⟨h1 j x (by assumption) hj, List.mem_of_getElem? hj⟩
    · cases hj
  have hS : ∀ x ∈ l.drop lo, t + 1 < x.1 ∧ x ∈ l := fun x hx => by
    obtain ⟨j, hj⟩ := List.mem_iff_getElem?.1 hx
    rw [List.getElem?_drop] at hj
    exact ⟨h2 _ x (by omega) hj, List.mem_of_getElem? hj⟩
  have hpw : (l.take lo ++ l.drop lo).Pairwise fun x y => x.2 + 1 < y.1 := by rw [List.take_append_drop]; exact h.pw
  rw [List.pairwise_append] at hpw
  refine ⟨⟨fun x hx => ?_, ?_⟩, fun o => ?_⟩
  · rw [List.mem_append, List.mem_append, List.mem_singleton] at hx
    rcases hx with (hx | rfl) | hx
    · exact h.lo x (hP x hx).2
    · exact ⟨hb, hft⟩
    · exact h.lo x (hS x hx).2
  · rw [List.pairwise_append, List.pairwise_append]
    refine ⟨⟨hpw.1, List.pairwise_singleton _ _, fun x hx y hy => ?_⟩, hpw.2.1, fun x hx y hy => ?_⟩
    · obtain rfl := List.mem_singleton.1 hy
      have := (hP x hx).1; dsimp only; omega
    · rcases List.mem_append.1 hx with hx | hx
      · exact hpw.2.2 x hx y hy
      · obtain rfl := List.mem_singleton.1 hx
        exact (hS y hy).1
  · rw [Mem.app, Mem.app, Mem.one]
    have e : Mem o l ↔ Mem o (l.take lo) ∨ Mem o (l.drop lo) := by rw [← Mem.app, List.take_append_drop]
    rw [e]
    constructor
    · rintro ((h | h) | h)
      · exact Or.inl (Or.inl h)
      · exact Or.inr h
      · exact Or.inl (Or.inr h)
    · rintro ((h | h) | h)
      · exact Or.inl (Or.inl h)
      · exact Or.inr h
      · exact Or.inl (Or.inr h)
theorem ins_some {b f t : Int} {l : List Sp} (h : Rt b l) (hb : b ≤ f) (hft : f ≤ t) (lo hi : Nat) (hlh : lo < hi) (hl : hi ≤ l.length) (h1 : ∀ j x, j < lo → l[j]? = some x → x.2 < f - 1) (h2 : ∀ j x, hi ≤ j → l[j]? = some x → t + 1 < x.1) (m0 m1 : Sp) (e0 : l[lo]? = some m0) (e1 : l[hi - 1]? = some m1) (g0 : f - 1 ≤ m0.2) (g1 : m1.1 ≤ t + 1) :
    InsOK b f t l (l.take lo ++ [(if m0.1 < f then m0.1 else f, if t < m1.2 then m1.2 else t)] ++ l.drop hi) := by
  obtain ⟨u, hu⟩ : ∃ u, u = if m0.1 < f then m0.1 else f := ⟨_, rfl⟩
  obtain ⟨v, hv⟩ : ∃ v, v = if t < m1.2 then m1.2 else t := ⟨_, rfl⟩
  rw [← hu, ← hv]
  have hu1 : u ≤ f ∧ u ≤ m0.1 ∧ (u = f ∨ u = m0.1) := by rw [hu]; split <;> omega
  have hv1 : t ≤ v ∧ m1.2 ≤ v ∧ (v = t ∨ v = m1.2) := by rw [hv]; split <;> omega
  have idx : ∀ (i j : Nat) (x y : Sp), i < j → l[i]? = some x → l[j]? = some y → x.2 + 1 < y.1 := fun i j x y hij hx hy => by
    obtain ⟨hi', ex⟩ := List.getElem?_eq_some_iff.1 hx
    obtain ⟨hj', ey⟩ := List.getElem?_eq_some_iff.1 hy
    have := List.pairwise_iff_getElem.1 h.pw i j hi' hj' hij
    rw [ex, ey] at this
    exact this
  have mm : ∀ {j : Nat} {x : Sp}, l[j]? = some x → b ≤ x.1 ∧ x.1 ≤ x.2 := fun hx => h.lo _ (List.mem_of_getElem? hx)
  have m0l := mm e0
  have m1l := mm e1
  have hP : ∀ x ∈ l.take lo, x.2 < f - 1 ∧ x ∈ l ∧ x.2 + 1 < m0.1 := fun x hx => by
    obtain ⟨j, hj⟩ := List.mem_iff_getElem?.1 hx
    rw [List.getElem?_take] at hj
    split at hj
    · exact ⟨h1 j x (by assumption) hj, List.mem_of_getElem? hj, idx j lo x m0 (by assumption) hj e0⟩
    · cases hj
  have hS : ∀ x ∈ l.drop hi, t + 1 < x.1 ∧ x ∈ l ∧ m1.2 + 1 < x.1 := fun x hx => by
    obtain ⟨j, hj⟩ := List.mem_iff_getElem?.1 hx
    rw [List.getElem?_drop] at hj
    exact ⟨h2 _ x (by omega) hj, List.mem_of_getElem? hj, idx _ _ _ _ (by omega) e1 hj⟩
  have hpw : (l.take hi ++ l.drop hi).Pairwise fun x y => x.2 + 1 < y.1 := by rw [List.take_append_drop]; exact h.pw
  rw [List.pairwise_append] at hpw
  have hsub : (l.take lo).Sublist (l.take hi) := by
    rw [show l.take lo = (l.take hi).take lo by rw [List.take_take, Nat.min_eq_left (by omega)]]
    exact List.take_sublist _ _
  refine ⟨⟨fun x hx => ?_, ?_⟩, fun o => ?_⟩
  · rw [List.mem_append, List.mem_append, List.mem_singleton] at hx
    rcases hx with (hx | rfl) | hx
    · exact h.lo x (hP x hx).2.1
    · refine ⟨?_, ?_⟩
      · dsimp only; rcases hu1.2.2 with e | e <;> omega
      · dsimp only; omega
    · exact h.lo x (hS x hx).2.1
  · rw [List.pairwise_append, List.pairwise_append]
    refine ⟨⟨hpw.1.sublist hsub, List.pairwise_singleton _ _, fun x hx y hy => ?_⟩, hpw.2.1, fun x hx y hy => ?_⟩
    · obtain rfl := List.mem_singleton.1 hy
      have := hP x hx; dsimp only; rcases hu1.2.2 with e | e <;> omega
    · rcases List.mem_append.1 hx with hx | hx
      · exact hpw.2.2 x (hsub.subset hx) y hy
      · obtain rfl := List.mem_singleton.1 hx
        have := hS y hy; dsimp only; rcases hv1.2.2 with e | e <;> omega
  · rw [Mem.app, Mem.app, Mem.one]
    dsimp only
    constructor
    · rintro ((⟨x, hx, hxo⟩ | ho) | ⟨x, hx, hxo⟩)
      · exact Or.inl ⟨x, (hP x hx).2.1, hxo⟩
      · by_cases hof : o < f
        · exact Or.inl ⟨m0, List.mem_of_getElem? e0, by rcases hu1.2.2 with e | e <;> omega, by omega⟩
        · by_cases hot : t < o
          · exact Or.inl ⟨m1, List.mem_of_getElem? e1, by omega, by rcases hv1.2.2 with e | e <;> omega⟩
          · exact Or.inr ⟨by omega, by omega⟩
      · exact Or.inl ⟨x, (hS x hx).2.1, hxo⟩
    · rintro (⟨x, hx, hxo⟩ | ho)
      · obtain ⟨j, hj⟩ := List.mem_iff_getElem?.1 hx
        rcases Nat.lt_or_ge j lo with hjl | hjl
        · refine Or.inl (Or.inl ⟨x, List.mem_iff_getElem?.2 ⟨j, ?_⟩, hxo⟩)
          rw [List.getElem?_take, if_pos hjl]; exact hj
        · rcases Nat.lt_or_ge j hi with hjh | hjh
          · refine Or.inl (Or.inr ?_)
            have q1 : m0.1 ≤ x.1 := by
              rcases Nat.eq_or_lt_of_le hjl with e | e
              · subst e; rw [e0] at hj; cases hj; omega
              · have := idx lo j m0 x e e0 hj; omega
            have q2 : x.2 ≤ m1.2 := by
              rcases Nat.eq_or_lt_of_le (show j ≤ hi - 1 by omega) with e | e
              · subst e; rw [e1] at hj; cases hj; omega
              · have := idx j (hi - 1) x m1 e hj e1; omega
            omega
          · refine Or.inr ⟨x, List.mem_iff_getElem?.2 ⟨j - hi, ?_⟩, hxo⟩
            rw [List.getElem?_drop, show hi + (j - hi) = j by omega]; exact hj
      · exact Or.inl (Or.inr (by omega))
section
variable {W : Int} {q : Stm} (k : Nat) (h : Good W q)
include h
/-- The last part of put. -/
theorem put_hi7 {f : Int} {b : List Int} (hb : b ≠ []) (hf : q.2.1 ≤ f) (ht : f + b.length ≤ 4611686018427387903) (lo : Nat) (hlo : lo ≤ q.2.2.2.1.length) (h1 : ∀ j x, j < lo → q.2.2.2.1[j]? = some x → x.2 < f - 1) (h1' : ∀ x, q.2.2.2.1[lo]? = some x → f - 1 ≤ x.2) : ∀ (k' hi : Nat), lo ≤ hi → hi ≤ q.2.2.2.1.length → hi < k' → (∀ j x, hi ≤ j → q.2.2.2.1[j]? = some x → f + b.length - 1 + 1 < x.1) →
    ∃ r, (iter (reasm_Stream_put.s7 k f b (lo : Int)) k' ((hi : Int), q) = some (.inr (.inr (q.1, q.2.1, q.2.2.1, r, q.2.2.2.2.1, q.2.2.2.2.2.1, q.2.2.2.2.2.2))) ∧ iter (reasm_Stream_put.s5 k f b (lo : Int)) k' ((hi : Int), q) = some (.inr (.inr (q.1, q.2.1, q.2.2.1, r, q.2.2.2.2.1, q.2.2.2.2.2.1, q.2.2.2.2.2.2)))) ∧ InsOK q.2.1 f (f + b.length - 1) q.2.2.2.1 r := by
  have hbl : 0 < b.length := List.length_pos_iff.2 hb
  have ha0 := h.a0
  have hl := h.len
  have ew : IntKind.wrap IntKind.i64 (IntKind.wrap IntKind.i64 (f + ((b.length : Nat) : Int)) - 1) = f + b.length - 1 := by
    rw [wrap_in (f + _) (by omega) (by omega), wrap_in _ (by omega) (by omega)]
  have ew2 : IntKind.wrap IntKind.i64 (f + b.length - 1 + 1) = f + b.length - 1 + 1 := wrap_in _ (by omega) (by omega)
  intro k'
  induction k' with
  | zero => intro hi _ _ hk; omega
  | succ k' ih =>
    intro hi hlh hhl hk hS
    have cond : ∀ hi : Nat, lo ≤ hi → hi ≤ q.2.2.2.1.length → decide ((0 : Int) ≤ (lo : Int) ∧ (lo : Int) ≤ (hi : Int) ∧ (hi : Int) ≤ (q.2.2.2.1.length : Int) ∧ (q.2.2.2.1.length + 1) * 16 ≤ 140737488355328) = true := fun hi h1 h2 => decide_eq_true ⟨by omega, by omega, by omega, by omega⟩
    by_cases hlt : lo < hi
    · obtain ⟨hi', rfl⟩ : ∃ n, hi = n + 1 := ⟨hi - 1, by omega⟩
      have c1 : decide ((lo : Int) < ((hi' + 1 : Nat) : Int)) = true := decide_eq_true (by omega)
      have ei : IntKind.wrap IntKind.i64 (((hi' + 1 : Nat) : Int) - 1) = (hi' : Int) := by rw [wrap_in _ (by omega) (by omega)]; omega
      have hx : q.2.2.2.1[hi']? = some q.2.2.2.1[hi'] := List.getElem?_eq_getElem (by omega)
      generalize q.2.2.2.1[hi'] = x at hx
      have hg : getI q.2.2.2.1 (hi' : Int) = some x := by rw [getI_nat, hx]
      by_cases hc : f + b.length - 1 + 1 < x.1
      · have hs7 : reasm_Stream_put.s7 k f b (lo : Int) (((hi' + 1 : Nat) : Int), q) = some (.inl ((hi' : Int), q)) := by
          unfold reasm_Stream_put.s7
          simp only [c1, cond_true, ei, hg, Option.bind_some, ew, ew2, decide_eq_true hc]
        have hs5 : reasm_Stream_put.s5 k f b (lo : Int) (((hi' + 1 : Nat) : Int), q) = some (.inl ((hi' : Int), q)) := by
          unfold reasm_Stream_put.s5
          simp only [c1, cond_true, ei, hg, Option.bind_some, ew, ew2, decide_eq_true hc]
        rw [iter_l hs7, iter_l hs5]
        refine ih hi' (by omega) (by omega) (by omega) (fun j y hj hy => ?_)
        rcases Nat.eq_or_lt_of_le hj with e | e
        · subst e; rw [hx] at hy; cases hy; exact hc
        · exact hS j y (by omega) hy
      · have hx0 : q.2.2.2.1[lo]? = some q.2.2.2.1[lo] := List.getElem?_eq_getElem (by omega)
        generalize q.2.2.2.1[lo] = x0 at hx0
        have hg0 : getI q.2.2.2.1 (lo : Int) = some x0 := by rw [getI_nat, hx0]
        have hI := ins_some h.rt hf (by omega) lo (hi' + 1) hlt hhl h1 hS x0 x hx0 (by rw [Nat.add_sub_cancel]; exact hx) (h1' x0 hx0) (by omega)
        refine ⟨_, ⟨?_, ?_⟩, hI⟩
        · refine iter_r ?_
          unfold reasm_Stream_put.s7
          simp only [c1, cond_true, ei, hg, hg0, Option.bind_some, ew, ew2, decide_eq_false hc, cond_false, cond (hi' + 1) hlh hhl, Int.toNat_natCast]
        · refine iter_r ?_
          unfold reasm_Stream_put.s5
          simp only [c1, cond_true, ei, hg, hg0, Option.bind_some, ew, ew2, decide_eq_false hc, cond_false, cond (hi' + 1) hlh hhl, Int.toNat_natCast]
    · obtain rfl : hi = lo := by omega
      have c1 : decide ((hi : Int) < (hi : Int)) = false := decide_eq_false (by omega)
      have hI := ins_none h.rt hf (show f ≤ f + b.length - 1 by omega) hi hlo h1 (fun j x hj hx => hS j x hj hx)
      refine ⟨_, ⟨?_, ?_⟩, hI⟩
      · refine iter_r ?_
        unfold reasm_Stream_put.s7
        simp only [c1, cond_false, ew, cond hi hlh hhl, cond_true, Int.toNat_natCast]
      · refine iter_r ?_
        unfold reasm_Stream_put.s5
        simp only [c1, cond_false, ew, cond hi hlh hhl, cond_true, Int.toNat_natCast]
theorem put_lo (hk : 4200 < k) {f : Int} {b : List Int} (hb : b ≠ []) (hf : q.2.1 ≤ f) (ht : f + b.length ≤ 4611686018427387903) (q1 : Stm) (hq1 : q1.2.2.2.1 = q.2.2.2.1) : ∀ (k' lo : Nat), lo ≤ q.2.2.2.1.length → q.2.2.2.1.length - lo < k' → (∀ j x, j < lo → q.2.2.2.1[j]? = some x → x.2 < f - 1) →
    ∃ r, iter (reasm_Stream_put.s3 k f b q1) k' ((lo : Int), q) = some (.inr (q.1, q.2.1, q.2.2.1, r, q.2.2.2.2.1, q.2.2.2.2.2.1, q.2.2.2.2.2.2)) ∧ InsOK q.2.1 f (f + b.length - 1) q.2.2.2.1 r := by
  have ha0 := h.a0
  have hl := h.len
  have ef : IntKind.wrap IntKind.i64 (f - 1) = f - 1 := wrap_in _ (by omega) (by omega)
  intro k'
  induction k' with
  | zero => intro lo _ hk; omega
  | succ k' ih =>
    intro lo hlo hk' h1
    rcases Nat.lt_or_ge lo q.2.2.2.1.length with hlt | hge
    · have hx : q.2.2.2.1[lo]? = some q.2.2.2.1[lo] := List.getElem?_eq_getElem hlt
      generalize q.2.2.2.1[lo] = x at hx
      have hg : getI q.2.2.2.1 (lo : Int) = some x := by rw [getI_nat, hx]
      have c1 : decide ((lo : Int) < ((q.2.2.2.1.length : Nat) : Int)) = true := decide_eq_true (by omega)
      by_cases hc : x.2 < f - 1
      · have hs : reasm_Stream_put.s3 k f b q1 ((lo : Int), q) = some (.inl (((lo + 1 : Nat) : Int), q)) := by
          unfold reasm_Stream_put.s3
          simp only [c1, cond_true, hg, Option.bind_some, ef, decide_eq_true hc]
          rw [wrap_in _ (by omega) (by omega)]; rfl
        rw [iter_l hs]
        refine ih (lo + 1) hlt (by omega) (fun j y hj hy => ?_)
        rcases Nat.eq_or_lt_of_le (Nat.le_of_lt_succ hj) with e | e
        · subst e; rw [hx] at hy; cases hy; exact hc
        · exact h1 j y e hy
      · obtain ⟨r, ⟨e7, _⟩, hI⟩ := put_hi7 k h hb hf ht lo hlo h1 (fun y hy => by rw [hx] at hy; cases hy; omega) k q.2.2.2.1.length hlo (Nat.le_refl _) (by omega) (fun j y hj hy => by
          have := (List.getElem?_eq_some_iff.1 hy).1; omega)
        refine ⟨r, ?_, hI⟩
        refine iter_r ?_
        unfold reasm_Stream_put.s3
        simp only [c1, cond_true, hg, Option.bind_some, ef, decide_eq_false hc, cond_false, hq1, e7]
    · obtain rfl : lo = q.2.2.2.1.length := by omega
      have c1 : decide (((q.2.2.2.1.length : Nat) : Int) < ((q.2.2.2.1.length : Nat) : Int)) = false := decide_eq_false (by omega)
      obtain ⟨r, ⟨_, e5⟩, hI⟩ := put_hi7 k h hb hf ht q.2.2.2.1.length hlo h1 (fun y hy => by
          have := (List.getElem?_eq_some_iff.1 hy).1; omega) k q.2.2.2.1.length (Nat.le_refl _) (Nat.le_refl _) (by omega) (fun j y hj hy => by
          have := (List.getElem?_eq_some_iff.1 hy).1; omega)
      refine ⟨r, ?_, hI⟩
      refine iter_r ?_
      unfold reasm_Stream_put.s3
      simp only [c1, cond_false, hq1, e5]
end
end Go.Proofs.Ytdjeadgebcndeaa.X
