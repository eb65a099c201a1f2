/- Reasm: in plain words: put, Data, Reset, Read. -/
import Derived.Test.YtdjeadgebcndeaaRp3
namespace Go.Proofs.Ytdjeadgebcndeaa.X
open Go Go.Proofs.YtdjeadgebcndeaaW.Rx
set_option linter.unusedVariables false
set_option linter.unusedSimpArgs false
/-- A row of bytes has what a text has, at some offsets. -/
def Holds (txt : Int → Int) (a : Int) (row : List Int) (S : Int → Prop) : Prop := ∀ o, S o → a ≤ o → o < a + row.length → row[(o - a).toNat]? = some (txt o)
theorem cop_get (lo : Nat) (xs ys : List Int) (i : Nat) (hlo : lo + ys.length ≤ xs.length) : (cop lo xs ys)[i]? = if lo ≤ i ∧ i < lo + ys.length then ys[i - lo]? else xs[i]? := by
  unfold cop
  have e1 : ys.take (xs.length - lo) = ys := List.take_of_length_le (by omega)
  have l1 : (xs.take lo).length = lo := by rw [List.length_take]; omega
  rw [e1, Nat.min_eq_left (by omega)]
  rcases Nat.lt_or_ge i lo with h | h
  · rw [if_neg (by omega), List.append_assoc, List.getElem?_append_left (by omega), List.getElem?_take, if_pos h]
  · rcases Nat.lt_or_ge i (lo + ys.length) with h2 | h2
    · rw [if_pos ⟨h, h2⟩, List.append_assoc, List.getElem?_append_right (by omega), l1, List.getElem?_append_left (by omega)]
    · rw [if_neg (by omega), List.getElem?_append_right (by rw [List.length_append]; omega), List.length_append, l1, List.getElem?_drop]
      congr 1; omega
section
variable {W : Int} (k : Nat)
theorem put_cp (hk : 5000 < k) {f : Int} {b : List Int} (hb : b ≠ []) (hbl : f + b.length ≤ 4611686018427387903) {g : List Sp} (hg : ∀ x ∈ g, f ≤ x.1 ∧ x.1 ≤ x.2 ∧ x.2 ≤ f + b.length - 1) (hgl : g.length ≤ 4097) : ∀ (k' j : Nat) (q : Stm), Good W q → q.2.1 ≤ f → f + b.length ≤ q.2.1 + W → j ≤ g.length → g.length - j < k' →
    ∃ row r, iter (reasm_Stream_put.s1 k f b g) k' ((j : Int), q) = some (q.1, q.2.1, row, r, q.2.2.2.2.1, q.2.2.2.2.2.1, q.2.2.2.2.2.2) ∧ row.length = q.2.2.1.length ∧ InsOK q.2.1 f (f + b.length - 1) q.2.2.2.1 r ∧
      ∀ (txt : Int → Int) (S : Int → Prop), Holds txt q.2.1 q.2.2.1 S → (∀ i x, b[i]? = some x → x = txt (f + (i : Nat))) → Holds txt q.2.1 row (fun o => S o ∨ Mem o (g.drop j)) := by
  intro k'
  induction k' with
  | zero => intro j q _ _ _ _ h; omega
  | succ k' ih =>
    intro j q h hf hw hj hk'
    have ha0 := h.a0
    have hrow := h.row
    have hw2 := h.w2
    rcases Nat.lt_or_ge j g.length with hlt | hge
    · have hx : g[j]? = some g[j] := List.getElem?_eq_getElem hlt
      have hxm : g[j] ∈ g := List.getElem_mem hlt
      have hdrop : g.drop j = g[j] :: g.drop (j + 1) := List.drop_eq_getElem_cons hlt
      generalize g[j] = x at hx hxm hdrop
      have hgi : getI g (j : Int) = some x := by rw [getI_nat, hx]
      obtain ⟨x1, x2, x3⟩ := hg x hxm
      obtain ⟨u, hu⟩ : ∃ u : Nat, x.1 - q.2.1 = u := ⟨(x.1 - q.2.1).toNat, by omega⟩
      obtain ⟨v, hv⟩ : ∃ v : Nat, x.1 - f = v := ⟨(x.1 - f).toNat, by omega⟩
      obtain ⟨z, hz⟩ : ∃ z : Nat, x.2 - f + 1 = z := ⟨(x.2 - f + 1).toNat, by omega⟩
      have w1 : IntKind.wrap IntKind.i64 (x.1 - q.2.1) = (u : Int) := by rw [wrap_in _ (by omega) (by omega), hu]
      have w2 : IntKind.wrap IntKind.i64 (x.1 - f) = (v : Int) := by rw [wrap_in _ (by omega) (by omega), hv]
      have w3 : IntKind.wrap IntKind.i64 (IntKind.wrap IntKind.i64 (x.2 - f) + 1) = (z : Int) := by rw [wrap_in (x.2 - f) (by omega) (by omega), wrap_in _ (by omega) (by omega), hz]
      have w4 : IntKind.wrap IntKind.i64 ((j : Int) + 1) = ((j + 1 : Nat) : Int) := by rw [wrap_in _ (by omega) (by omega)]; rfl
      have c1 : decide ((j : Int) < ((g.length : Nat) : Int)) = true := decide_eq_true (by omega)
      have c2 : decide ((0 : Int) ≤ (u : Int) ∧ (u : Int) ≤ ((q.2.2.1.length : Nat) : Int) ∧ ((q.2.2.1.length : Nat) : Int) ≤ (q.2.2.1.length : Int)) = true := decide_eq_true ⟨by omega, by omega, Int.le_refl _⟩
      have c3 : decide ((0 : Int) ≤ (v : Int) ∧ (v : Int) ≤ (z : Int) ∧ (z : Int) ≤ (b.length : Int)) = true := decide_eq_true ⟨by omega, by omega, by omega⟩
      obtain ⟨ys, hys⟩ : ∃ ys, ys = (b.drop v).take (z - v) := ⟨_, rfl⟩
      have lys : ys.length = z - v := by rw [hys, List.length_take, List.length_drop]; omega
      have hcl : (cop u q.2.2.1 ys).length = q.2.2.1.length := cop_len (by omega)
      have hs : reasm_Stream_put.s1 k f b g ((j : Int), q) = some (.inl (((j + 1 : Nat) : Int), (q.1, q.2.1, cop u q.2.2.1 ys, q.2.2.2.1, q.2.2.2.2.1, q.2.2.2.2.2.1, q.2.2.2.2.2.2))) := by
        unfold reasm_Stream_put.s1
        simp only [c1, cond_true, hgi, Option.bind_some, w1, w2, w3, w4, c2, c3, Int.toNat_natCast, hys]
      rw [iter_l hs]
      obtain ⟨row, r, e1, e2, e3, e4⟩ := ih (j + 1) (q.1, q.2.1, cop u q.2.2.1 ys, q.2.2.2.1, q.2.2.2.2.1, q.2.2.2.2.2.1, q.2.2.2.2.2.2) ⟨h.w, h.w1, h.w2, h.a0, h.a1, by dsimp only; rw [hcl]; exact h.row, h.rt, h.up, h.en, h.br⟩ hf hw hlt (by omega)
      refine ⟨row, r, e1, by rw [e2]; exact hcl, e3, fun txt S hS hbt => ?_⟩
      have := e4 txt (fun o => S o ∨ (x.1 ≤ o ∧ o ≤ x.2)) (fun o ho h1 h2 => ?_) hbt
      · intro o ho h1 h2
        refine this o ?_ h1 h2
        rw [hdrop] at ho
        rcases ho with ho | ⟨y, hy, hyo⟩
        · exact Or.inl (Or.inl ho)
        · rcases List.mem_cons.1 hy with rfl | hy
          · exact Or.inl (Or.inr hyo)
          · exact Or.inr ⟨y, hy, hyo⟩
      · dsimp only at h1 h2 ⊢
        rw [hcl] at h2
        rw [cop_get _ _ _ _ (by omega)]
        by_cases hin : x.1 ≤ o ∧ o ≤ x.2
        · rw [if_pos (by omega), hys, List.getElem?_take, if_pos (by omega), List.getElem?_drop]
          have hb' : v + ((o - q.2.1).toNat - u) < b.length := by omega
          have := hbt _ _ (List.getElem?_eq_getElem hb')
          rw [List.getElem?_eq_getElem hb', this]
          congr 2; omega
        · rw [if_neg (by omega)]
          exact hS o (ho.resolve_right hin) h1 h2
    · obtain rfl : j = g.length := by omega
      have c1 : decide (((g.length : Nat) : Int) < ((g.length : Nat) : Int)) = false := decide_eq_false (by omega)
      obtain ⟨r, e1, e2⟩ := put_lo k h (by omega) hb hf hbl q rfl k 0 (Nat.zero_le _) (by have := h.len; omega) (fun j x hj _ => by omega)
      refine ⟨q.2.2.1, r, ?_, rfl, e2, fun txt S hS hbt o ho h1 h2 => ?_⟩
      · refine iter_r ?_
        unfold reasm_Stream_put.s1
        simp only [c1, cond_false]
        exact e1
      · rw [List.drop_length] at ho
        rcases ho with ho | ⟨y, hy, _⟩
        · exact hS o ho h1 h2
        · cases hy
variable {q : Stm} (h : Good W q)
include h
/-- Bytes are put. -/
theorem put_F (hk : 5000 < k) {f : Int} {b : List Int} (hf : b ≠ [] → q.2.1 ≤ f) (hw : f + b.length ≤ q.2.1 + W) (hm : f + b.length ≤ 4611686018427387903) :
    ∃ row r, reasm_Stream_put.F k q f b = some (q.1, q.2.1, row, r, q.2.2.2.2.1, q.2.2.2.2.2.1, q.2.2.2.2.2.2) ∧ row.length = q.2.2.1.length ∧ InsOK q.2.1 f (f + b.length - 1) q.2.2.2.1 r ∧
      ∀ (txt : Int → Int), Holds txt q.2.1 q.2.2.1 (fun o => Mem o q.2.2.2.1) → (∀ i x, b[i]? = some x → x = txt (f + (i : Nat))) → Holds txt q.2.1 row (fun o => Mem o r) := by
  have ha0 := h.a0
  unfold reasm_Stream_put.F
  by_cases hb : b = []
  · subst hb
    refine ⟨q.2.2.1, q.2.2.2.1, rfl, rfl, ⟨h.rt, fun o => ⟨Or.inl, fun ho => ho.resolve_right (by simp only [List.length_nil]; omega)⟩⟩, fun txt hS _ => hS⟩
  · have hf := hf hb
    have hbl : 0 < b.length := List.length_pos_iff.2 hb
    have c0 : (((b.length : Nat) : Int) == 0) = false := by simp; exact hb
    have hw2 := h.w2
    have w1 : IntKind.wrap IntKind.i64 (IntKind.wrap IntKind.i64 (f + ((b.length : Nat) : Int)) - 1) = f + b.length - 1 := by rw [wrap_in (f + _) (by omega) (by omega), wrap_in _ (by omega) (by omega)]
    obtain ⟨g, e1, e2⟩ := gaps_F k h (by omega) (f := f) (t := f + b.length - 1) (by omega) (by omega)
    obtain ⟨row, r, e3, e4, e5, e6⟩ := put_cp k hk hb hm e2.inn e2.len k 0 q h hf hw (Nat.zero_le _) (by have := e2.len; omega)
    refine ⟨row, r, ?_, e4, e5, fun txt hS hbt o ho h1 h2 => ?_⟩
    · simp only [c0, cond_false, w1, e1, Option.bind_some]
      exact e3
    · refine e6 txt _ hS hbt o ?_ h1 h2
      rw [List.drop_zero]
      rcases (e5.mem o).1 ho with ho | ho
      · exact Or.inl ho
      · exact e2.cov o ho.1 ho.2
/-- What Data answers, and what stands behind it. -/
structure DataOK (W : Int) (q : Stm) (n : Int) (b : List Int) (fin : Bool) (q' : Stm) : Prop where
  n0 : 0 ≤ n
  lim : n + b.length ≤ q.2.1 + W
  mx : n + b.length ≤ 4611686018427387903
  nb : q.2.2.2.2.2.2 = false
  good : Good W q'
  same : q'.2.1 = q.2.1
  nb' : q'.2.2.2.2.2.2 = false
  known : q'.2.2.2.2.2.1 = (fin || q.2.2.2.2.2.1)
  en : q'.2.2.2.2.1 = if fin then n + b.length else q.2.2.2.2.1
  kn : q.2.2.2.2.2.1 = true → n + b.length ≤ q.2.2.2.2.1 ∧ (fin = true → n + b.length = q.2.2.2.2.1)
  mem : ∀ o, Mem o q'.2.2.2.1 ↔ Mem o q.2.2.2.1 ∨ (q.2.1 ≤ o ∧ n ≤ o ∧ o < n + b.length)
  txt : ∀ (txt : Int → Int), Holds txt q.2.1 q.2.2.1 (fun o => Mem o q.2.2.2.1) → (∀ i x, b[i]? = some x → x = txt (n + (i : Nat))) → Holds txt q.2.1 q'.2.2.1 (fun o => Mem o q'.2.2.2.1)
theorem data_F (hk : 5000 < k) {n : Int} {b : List Int} {fin : Bool} (hbl : b.length ≤ 9223372036854775807) :
    ∃ e q', reasm_Stream_Data.F k q n b fin = some (e, q') ∧ ((e ≠ 0 ∧ q' = q) ∨ (e = 0 ∧ DataOK W q n b fin q')) ∧ (0 ≤ n → n + b.length ≤ 4611686018427387903 → q.2.2.2.2.2.2 = false → n + b.length ≤ q.2.1 + W → (q.2.2.2.2.2.1 = true → n + b.length ≤ q.2.2.2.2.1 ∧ (fin = true → n + b.length = q.2.2.2.2.1)) → (fin = true → q.2.1 ≤ n + b.length ∧ ∀ x ∈ q.2.2.2.1, x.2 < n + b.length) → e = 0) := by
  have ha0 := h.a0
  have ha1 := h.a1
  have hw1 := h.w1
  have hw2 := h.w2
  have hM : IntKind.wrap IntKind.i64 (4611686018427387903 - ((b.length : Nat) : Int)) = 4611686018427387903 - b.length := wrap_in _ (by omega) (by omega)
  have err : ∀ (e : Int) (v : Option (Int × Stm)) (C : Prop), v = some (e, q) → e ≠ 0 → (C → False) → ∃ e q', v = some (e, q') ∧ ((e ≠ 0 ∧ q' = q) ∨ (e = 0 ∧ DataOK W q n b fin q')) ∧ (C → e = 0) := fun e v C hv he hC => ⟨e, q, hv, Or.inl ⟨he, rfl⟩, fun hc => (hC hc).elim⟩
  suffices key : ∀ C : Prop, (C → (0 ≤ n ∧ n + b.length ≤ 4611686018427387903 ∧ q.2.2.2.2.2.2 = false ∧ n + b.length ≤ q.2.1 + W ∧ (q.2.2.2.2.2.1 = true → n + b.length ≤ q.2.2.2.2.1 ∧ (fin = true → n + b.length = q.2.2.2.2.1)) ∧ (fin = true → q.2.1 ≤ n + b.length ∧ ∀ x ∈ q.2.2.2.1, x.2 < n + b.length))) → ∃ e q', reasm_Stream_Data.F k q n b fin = some (e, q') ∧ ((e ≠ 0 ∧ q' = q) ∨ (e = 0 ∧ DataOK W q n b fin q')) ∧ (C → e = 0) by
    obtain ⟨e, q', h1, h2, h3⟩ := key _ id
    exact ⟨e, q', h1, h2, fun a b c d e f => h3 ⟨a, b, c, d, e, f⟩⟩
  intro C hCi
  unfold reasm_Stream_Data.F
  rw [ok_F k h]
  simp only [Option.bind_some, cond_true, hM]
  by_cases h1 : n < 0
  · exact err 1 _ _ (by simp [h1]) (by decide) (fun hc => by have := hCi hc; omega)
  by_cases h2 : 4611686018427387903 - (b.length : Int) < n
  · exact err 1 _ _ (by rw [decide_eq_false h1, decide_eq_true h2]; rfl) (by decide) (fun hc => by have := hCi hc; omega)
  rw [decide_eq_false h1, decide_eq_false h2]
  simp only [cond_false]
  cases hbr : q.2.2.2.2.2.2 with
  | true => exact err 18 _ _ rfl (by decide) (fun hc => by have := (hCi hc).2.2.1; rw [hbr] at this; cases this)
  | false =>
  have hE : IntKind.wrap IntKind.i64 (n + ((b.length : Nat) : Int)) = n + b.length := wrap_in _ (by omega) (by omega)
  have hA : IntKind.wrap IntKind.i64 (q.2.1 - n) = q.2.1 - n := wrap_in _ (by omega) (by omega)
  simp only [cond_false, limit_F k h, Option.bind_some, hE, hA]
  by_cases h3 : q.2.1 + W < n + (b.length : Int)
  · exact err 7 _ _ (by rw [decide_eq_true h3]; rfl) (by decide) (fun hc => by have := hCi hc; omega)
  rw [decide_eq_false h3]
  simp only [cond_false]
  obtain ⟨sk, hsk, hs1, hs2⟩ : ∃ sk : Nat, (if ((b.length : Nat) : Int) < (if q.2.1 - n < 0 then 0 else q.2.1 - n) then ((b.length : Nat) : Int) else (if q.2.1 - n < 0 then 0 else q.2.1 - n)) = (sk : Int) ∧ sk ≤ b.length ∧ ((sk = b.length ∧ (b.length : Int) ≤ q.2.1 - n ∨ sk = b.length ∧ b.length = 0) ∨ (sk < b.length ∧ ((sk : Int) = q.2.1 - n ∨ (sk = 0 ∧ q.2.1 - n < 0)))) := by
    by_cases hneg : q.2.1 - n < 0
    · rw [if_pos hneg, if_neg (by omega)]
      exact ⟨0, rfl, Nat.zero_le _, by omega⟩
    · rw [if_neg hneg]
      by_cases hl : ((b.length : Nat) : Int) < q.2.1 - n
      · rw [if_pos hl]; exact ⟨b.length, rfl, Nat.le_refl _, Or.inl (Or.inl ⟨rfl, by omega⟩)⟩
      · rw [if_neg hl]
        refine ⟨(q.2.1 - n).toNat, by omega, by omega, ?_⟩
        by_cases he : (q.2.1 - n).toNat = b.length
        · exact Or.inl (Or.inl ⟨he, by omega⟩)
        · exact Or.inr ⟨by omega, Or.inl (by omega)⟩
  have c4 : decide ((0 : Int) ≤ (sk : Int) ∧ (sk : Int) ≤ ((b.length : Nat) : Int) ∧ ((b.length : Nat) : Int) ≤ (b.length : Int)) = true := decide_eq_true ⟨by omega, by omega, Int.le_refl _⟩
  have hF : IntKind.wrap IntKind.i64 (n + (sk : Int)) = n + sk := wrap_in _ (by omega) (by omega)
  have htk : (b.drop sk).take (b.length - sk) = b.drop sk := List.take_of_length_le (by rw [List.length_drop]; exact Nat.le_refl _)
  have hdl : (b.drop sk).length = b.length - sk := List.length_drop
  obtain ⟨row, r, p1, p2, p3, p4⟩ := put_F k h hk (f := n + sk) (b := b.drop sk) (fun hne => by
    have : 0 < (b.drop sk).length := List.length_pos_iff.2 hne
    omega) (by rw [hdl]; omega) (by rw [hdl]; omega)
  have hmem : ∀ o, Mem o r ↔ Mem o q.2.2.2.1 ∨ (q.2.1 ≤ o ∧ n ≤ o ∧ o < n + b.length) := fun o => by
    rw [p3.mem o, hdl]
    constructor
    · rintro (h | h)
      · exact Or.inl h
      · right; omega
    · rintro (h | h)
      · exact Or.inl h
      · right; omega
  have hup : ∀ x ∈ r, x.2 < q.2.1 + W ∧ x.2 < 4611686018427387903 := fun x hx => by
    have hm := (hmem x.2).1 ⟨x, hx, (p3.rt.lo x hx).2, Int.le_refl _⟩
    rcases hm with ⟨y, hy, hyo⟩ | hm
    · have := h.up y hy; omega
    · omega
  have htx : ∀ (txt : Int → Int), Holds txt q.2.1 q.2.2.1 (fun o => Mem o q.2.2.2.1) → (∀ i x, b[i]? = some x → x = txt (n + (i : Nat))) → Holds txt q.2.1 row (fun o => Mem o r) := fun txt hS hbt => p4 txt hS (fun i x hx => by
    rw [List.getElem?_drop] at hx
    have := hbt _ _ hx
    rw [this]; congr 1; omega)
  simp only [hsk, c4, cond_true, hF, Int.toNat_natCast, htk, p1, Option.bind_some, last_F k h]
  have fin_ok : ∀ (kn : Bool) (en : Int), (q.2.2.2.2.2.1 = true → n + b.length ≤ q.2.2.2.2.1 ∧ (fin = true → n + b.length = q.2.2.2.2.1)) → kn = (fin || q.2.2.2.2.2.1) → en = (if fin then n + b.length else q.2.2.2.2.1) → (fin = true → q.2.1 ≤ n + b.length ∧ ∀ x ∈ q.2.2.2.1, x.2 < n + b.length) → DataOK W q n b fin (q.1, q.2.1, row, r, en, kn, q.2.2.2.2.2.2) := fun kn en hkn hk' he hfl => by
    refine ⟨by omega, by omega, by omega, hbr, ⟨h.w, hw1, hw2, ha0, ha1, by dsimp only; rw [p2]; exact h.row, p3.rt, hup, fun hkt => ?_, fun hh => by dsimp only at hh; rw [hbr] at hh; cases hh⟩, rfl, hbr, hk', he, hkn, hmem, htx⟩
    dsimp only at hkt ⊢
    have low : ∀ B : Int, n + b.length ≤ B → (∀ x ∈ q.2.2.2.1, x.2 < B) → ∀ x ∈ r, x.2 < B := fun B hB hq x hx => by
      rcases (hmem x.2).1 ⟨x, hx, (p3.rt.lo x hx).2, Int.le_refl _⟩ with ⟨y, hy, hyo⟩ | hm
      · have := hq y hy; omega
      · omega
    rw [he]
    cases hfin : fin with
    | true =>
      obtain ⟨f1, f2⟩ := hfl hfin
      simp only [if_true]
      exact ⟨by omega, by omega, f1, low _ (Int.le_refl _) f2⟩
    | false =>
      have hk1 : q.2.2.2.2.2.1 = true := by rw [hk', hfin] at hkt; simpa using hkt
      obtain ⟨e1, e2, e3, e4⟩ := h.en hk1
      simp only [Bool.false_eq_true, if_false]
      exact ⟨e1, e2, e3, low _ (hkn hk1).1 e4⟩
  have hlo := lastOf_le h (B := n + b.length)
  cases hkn : q.2.2.2.2.2.1 with
  | true =>
    simp only [cond_true]
    by_cases h4 : q.2.2.2.2.1 < n + (b.length : Int)
    · exact err 8 _ _ (by rw [decide_eq_true h4]; rfl) (by decide) (fun hc => by have := ((hCi hc).2.2.2.2.1 hkn).1; omega)
    rw [decide_eq_false h4]
    simp only [cond_false]
    cases hfin : fin with
    | true =>
      subst hfin
      simp only [cond_true]
      by_cases h5 : n + (b.length : Int) = q.2.2.2.2.1
      · have c5 : (n + (b.length : Int) != q.2.2.2.2.1) = false := by rw [h5]; simp
        rw [c5]
        simp only [cond_false]
        have hat : q.2.1 ≤ n + b.length := by rw [h5]; exact (h.en hkn).2.2.1
        by_cases h6 : n + (b.length : Int) < lastOf q.2.1 q.2.2.2.1
        · exact err 8 _ _ (by rw [decide_eq_true h6]; rfl) (by decide) (fun hc => by
            have := (hlo hat).2 ((hCi hc).2.2.2.2.2 rfl).2; omega)
        · rw [decide_eq_false h6]
          exact ⟨0, _, rfl, Or.inr ⟨rfl, fin_ok true (n + b.length) (fun _ => ⟨by omega, fun _ => h5⟩) rfl (by simp) (fun _ => ⟨hat, (hlo hat).1 (by omega)⟩)⟩, fun _ => rfl⟩
      · have c5 : (n + (b.length : Int) != q.2.2.2.2.1) = true := by simpa using h5
        exact err 8 _ _ (by rw [c5]; rfl) (by decide) (fun hc => h5 (((hCi hc).2.2.2.2.1 hkn).2 rfl))
    | false =>
      subst hfin
      simp only [cond_false]
      refine ⟨0, _, rfl, Or.inr ⟨rfl, ?_⟩, fun _ => rfl⟩
      have := fin_ok true q.2.2.2.2.1 (fun _ => ⟨by omega, fun h => by cases h⟩) (by rw [hkn]; rfl) rfl (fun h => by cases h)
      exact this
  | false =>
    simp only [cond_false]
    cases hfin : fin with
    | true =>
      subst hfin
      simp only [cond_true]
      by_cases hat : q.2.1 ≤ n + b.length
      · by_cases h6 : n + (b.length : Int) < lastOf q.2.1 q.2.2.2.1
        · exact err 8 _ _ (by rw [decide_eq_true h6]; rfl) (by decide) (fun hc => by
            have := (hlo hat).2 ((hCi hc).2.2.2.2.2 rfl).2; omega)
        · rw [decide_eq_false h6]
          exact ⟨0, _, rfl, Or.inr ⟨rfl, fin_ok true (n + b.length) (fun h => by rw [hkn] at h; cases h) rfl (by simp) (fun _ => ⟨hat, (hlo hat).1 (by omega)⟩)⟩, fun _ => rfl⟩
      · have h6 : n + (b.length : Int) < lastOf q.2.1 q.2.2.2.1 := by
          have : q.2.1 ≤ lastOf q.2.1 q.2.2.2.1 := by
            unfold lastOf
            cases hg : q.2.2.2.1.getLast? with
            | none => exact Int.le_refl _
            | some y =>
              have := h.rt.lo y (List.mem_of_getLast? hg)
              dsimp only; omega
          omega
        exact err 8 _ _ (by rw [decide_eq_true h6]; rfl) (by decide) (fun hc => hat ((hCi hc).2.2.2.2.2 rfl).1)
    | false =>
      subst hfin
      simp only [cond_false]
      refine ⟨0, _, rfl, Or.inr ⟨rfl, ?_⟩, fun _ => rfl⟩
      have := fin_ok false q.2.2.2.2.1 (fun h => by rw [hkn] at h; cases h) (by rw [hkn]; rfl) rfl (fun h => by cases h)
      exact this
end
end Go.Proofs.Ytdjeadgebcndeaa.X
