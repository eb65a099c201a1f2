import Derived.Test.YtpdchohbmmfemaazFp7
namespace Go.Proofs.Ytpdchohbmmfemaa.X
open Go Go.RowKit Go.Proofs.YtpdchohbmmfemaaW.Rx Go.Proofs.Ytpdchohbmmfemaa.Plain Go.Proofs.YtpdchohbmmfemaaW.PrintWords
set_option linter.unusedVariables false
set_option linter.unusedSimpArgs false
set_option linter.unusedSectionVars false
theorem bind_ok {α β : Type} {x : Ex α} {f : α → Ex β} {r : β} (h : x.bind f = .ok r) : ∃ a, x = .ok a ∧ f a = .ok r := by
 cases x with
 | error z => cases h
 | ok a => exact ⟨a, rfl, h⟩
theorem take_ok {b : List Int} (hb : Bytes b) {p n : Int} {d : List Int × Int} (h0 : 0 ≤ p) (h1 : p ≤ b.length) (hn : 0 ≤ n) (h : takeR b p n = .ok d) : (d.1.length : Int) = n ∧ d.2 = p + n ∧ p + n ≤ b.length ∧ Bytes d.1 := by
 unfold takeR at h
 by_cases hc : n ≤ (b.length : Int) - p
 ·rw [if_pos hc] at h
  cases h
  refine ⟨by rw [List.length_take, List.length_drop]; omega, rfl, by omega, fun x hx => hb x (List.mem_of_mem_drop (List.mem_of_mem_take hx))⟩
 ·rw [if_neg hc] at h; cases h
section
variable {b : List Int} (hb : Bytes b) (hl : b.length ≤ 1200)
include hb hl
theorem below_good {p most e : Int} {r : Int × Int} (h : belowR b p most e = .ok r) : 0 ≤ p ∧ p < b.length ∧ 0 ≤ r.1 ∧ r.1 ≤ most ∧ r.1 ≤ 4611686018427387903 ∧ r.2 ≤ b.length ∧ p < r.2 := below_ok (k := 1250) (Nat.le_refl _) hb hl h
theorem ackL_good (c : Nat) : ∀ (low p : Int) (acc : List (Int × Int)) (r : List (Int × Int) × Int), 0 ≤ p → p ≤ b.length → 0 ≤ low → low ≤ 4611686018427387903 → ackL b c low p acc = .ok r → ∃ s, r.1 = acc ++ s ∧ Desc low s ∧ s.length = c ∧ p ≤ r.2 ∧ r.2 ≤ b.length := by
 induction c with
 | zero => intro low p acc r h0 h1 h2 h3 h; cases h; exact ⟨[], by simp, trivial, rfl, by simp, by simpa using h1⟩
 | succ c ih =>
  intro low p acc r h0 h1 h2 h3 h
  rw [ackL] at h
  obtain ⟨g, hg, h⟩ := bind_ok h
  obtain ⟨n, hn, h⟩ := bind_ok h
  have eg := below_good hb hl hg
  have en := below_good hb hl hn
  obtain ⟨s, e1, e2, e3, e4, e5⟩ := ih _ _ _ _ (by omega) (by omega) (by omega) (by omega) h
  refine ⟨(low - 2 - g.1 - n.1, low - 2 - g.1) :: s, by rw [e1]; simp, ⟨⟨?_, ?_, ?_⟩, ?_, e2⟩, by simp [e3], by omega, e5⟩ <;> simp only <;> omega
def Good (b : List Int) (p : Int) (r : Fr × Int) : Prop := p < r.2 ∧ r.2 ≤ b.length ∧ mayB r.1 = true ∧ Bytes r.1.2.2.2.2.2.2.1
theorem ack_good {p : Int} {r : Fr × Int} (h : ackR b p = .ok r) : Good b p r := by
 unfold ackR at h
 obtain ⟨t, ht, h⟩ := bind_ok h
 obtain ⟨n, hn, h⟩ := bind_ok h
 obtain ⟨m, hm, h⟩ := bind_ok h
 obtain ⟨f, hf, h⟩ := bind_ok h
 obtain ⟨q, hq, h⟩ := bind_ok h
 have et := get_ok hb ht
 have en := get_ok hb hn
 have em := below_good hb hl hm
 have ef := below_good hb hl hf
 obtain ⟨s, e1, e2, e3, e4, e5⟩ := ackL_good hb hl _ _ _ _ _ (by omega) (by omega) (by omega) (by omega) hq
 cases h
 have hs : spansB q.1.reverse = true := by
  rw [e1, List.singleton_append]
  exact desc_spans (z := (t.1 - f.1, t.1)) ⟨by simp only; omega, by simp only; omega, by simp only; omega⟩ e2 (by have := em.2.2.2.1; have := em.2.2.1; omega)
 refine ⟨by simp only; omega, e5, ?_, fun x hx => (by cases hx)⟩
 unfold mayB shapeB
 simp only [List.all_cons, List.all_nil, hs, Bool.or_true, (may_iff n.1).2 ⟨en.2.2.1, en.2.2.2.1⟩]
 rfl
theorem stream_good {p kind p0 : Int} {r : Fr × Int} (h : streamR b kind p0 p = .ok r) : Good b p r := by
 unfold streamR at h
 obtain ⟨s, hs, h⟩ := bind_ok h
 obtain ⟨o, ho, h⟩ := bind_ok h
 obtain ⟨n, hn, h⟩ := bind_ok h
 have es := get_ok hb hs
 have eo : 0 ≤ o.1 ∧ o.1 ≤ 4611686018427387903 ∧ s.2 ≤ o.2 ∧ o.2 ≤ b.length := by
  by_cases hc : kind / 4 % 2 = 1
  ·rw [if_pos hc] at ho
   have := get_ok hb ho
   omega
  ·rw [if_neg hc] at ho
   cases ho
   simp only; omega
 have en : 0 ≤ n.1 ∧ n.1 ≤ 4611686018427387903 ∧ s.2 ≤ n.2 ∧ n.2 ≤ b.length := by
  by_cases hc : kind / 2 % 2 = 1
  ·rw [if_pos hc] at hn
   have := get_ok hb hn
   omega
  ·rw [if_neg hc] at hn
   cases hn
   simp only; omega
 by_cases hc : n.1 ≤ 4611686018427387903 - o.1
 ·rw [if_pos hc] at h
  obtain ⟨d, hd, h⟩ := bind_ok h
  have ed := take_ok hb (by omega) (by omega) (by omega) hd
  cases h
  refine ⟨by simp only; omega, by simp only; omega, ?_, ed.2.2.2⟩
  unfold mayB shapeB
  have hl1 : d.1.length ≤ 1200 := by omega
  simp only [List.all_cons, List.all_nil, (may_iff s.1).2 ⟨es.2.2.1, es.2.2.2.1⟩, (may_iff o.1).2 ⟨eo.1, eo.2.1⟩, decide_eq_true hl1, decide_eq_true (by omega : o.1 ≤ 4611686018427387903 - (d.1.length : Int))]
  rfl
 ·rw [if_neg hc] at h; cases h
theorem frame_good {p : Int} {r : Fr × Int} (h0 : 0 ≤ p) (h1 : p < b.length) (h : frameR b p = .ok r) : Good b p r := by
 unfold frameR at h
 have m0 : may 0 = true := by decide
 generalize rd b p = c at h
 simp only at h
 by_cases c0 : c = 0 ∨ c = 1 ∨ c = 30
 ·rw [if_pos c0] at h
  cases h
  refine ⟨by simp only; omega, by simp only; omega, ?_, fun x hx => (by cases hx)⟩
  rcases c0 with rfl | rfl | rfl <;> rfl
 rw [if_neg c0] at h
 by_cases c2 : c = 2
 ·rw [if_pos c2] at h
  have := ack_good hb hl h
  exact ⟨by have := this.1; omega, this.2⟩
 rw [if_neg c2] at h
 by_cases c4 : c = 4
 ·rw [if_pos c4] at h
  obtain ⟨s, hs, h⟩ := bind_ok h
  obtain ⟨t, ht, h⟩ := bind_ok h
  obtain ⟨o, ho, h⟩ := bind_ok h
  have es := get_ok hb hs
  have et := get_ok hb ht
  have eo := get_ok hb ho
  cases h
  refine ⟨by simp only; omega, by simp only; omega, ?_, fun x hx => (by cases hx)⟩
  unfold mayB shapeB
  simp only [List.all_cons, List.all_nil, (may_iff s.1).2 ⟨es.2.2.1, es.2.2.2.1⟩, (may_iff o.1).2 ⟨eo.2.2.1, eo.2.2.2.1⟩, (may_iff t.1).2 ⟨et.2.2.1, et.2.2.2.1⟩, List.length_nil, decide_eq_true (by omega : o.1 ≤ 4611686018427387903 - ((0 : Nat) : Int))]
  rfl
 rw [if_neg c4] at h
 by_cases c5 : c = 5
 ·rw [if_pos c5] at h
  obtain ⟨s, hs, h⟩ := bind_ok h
  obtain ⟨t, ht, h⟩ := bind_ok h
  have es := get_ok hb hs
  have et := get_ok hb ht
  cases h
  refine ⟨by simp only; omega, by simp only; omega, ?_, fun x hx => (by cases hx)⟩
  unfold mayB shapeB
  simp only [List.all_cons, List.all_nil, (may_iff s.1).2 ⟨es.2.2.1, es.2.2.2.1⟩, (may_iff t.1).2 ⟨et.2.2.1, et.2.2.2.1⟩]
  rfl
 rw [if_neg c5] at h
 by_cases c17 : c = 17
 ·rw [if_pos c17] at h
  obtain ⟨s, hs, h⟩ := bind_ok h
  obtain ⟨t, ht, h⟩ := bind_ok h
  have es := get_ok hb hs
  have et := get_ok hb ht
  cases h
  refine ⟨by simp only; omega, by simp only; omega, ?_, fun x hx => (by cases hx)⟩
  unfold mayB shapeB
  simp only [List.all_cons, List.all_nil, (may_iff s.1).2 ⟨es.2.2.1, es.2.2.2.1⟩, (may_iff t.1).2 ⟨et.2.2.1, et.2.2.2.1⟩]
  rfl
 rw [if_neg c17] at h
 by_cases c16 : c = 16 ∨ c = 18
 ·rw [if_pos c16] at h
  obtain ⟨s, hs, h⟩ := bind_ok h
  have es := get_ok hb hs
  cases h
  refine ⟨by simp only; omega, by simp only; omega, ?_, fun x hx => (by cases hx)⟩
  unfold mayB shapeB
  simp only [List.all_cons, List.all_nil, (may_iff s.1).2 ⟨es.2.2.1, es.2.2.2.1⟩]
  rcases c16 with rfl | rfl <;> rfl
 rw [if_neg c16] at h
 by_cases c28 : c = 28
 ·rw [if_pos c28] at h
  obtain ⟨s, hs, h⟩ := bind_ok h
  obtain ⟨t, ht, h⟩ := bind_ok h
  obtain ⟨d, hd, h⟩ := bind_ok h
  have es := get_ok hb hs
  have et := get_ok hb ht
  have ed := take_ok hb (by omega) (by omega) (by omega) hd
  cases h
  refine ⟨by simp only; omega, by simp only; omega, ?_, ed.2.2.2⟩
  unfold mayB shapeB
  have hl1 : d.1.length ≤ 1200 := by omega
  simp only [List.all_cons, List.all_nil, (may_iff s.1).2 ⟨es.2.2.1, es.2.2.2.1⟩, decide_eq_true hl1, decide_eq_true (by omega : (0 : Int) ≤ 4611686018427387903 - (d.1.length : Int))]
  rfl
 rw [if_neg c28] at h
 by_cases c8 : c / 8 = 1
 ·rw [if_pos c8] at h
  have := stream_good hb hl h
  exact ⟨by have := this.1; omega, this.2⟩
 ·rw [if_neg c8] at h; cases h
end
def decR (b : List Int) : Nat → List Fr → Int → Ex (List Fr)
 | 0, acc, _ => .ok acc
 | q + 1, acc, p => if p < b.length then (if acc.length < 64 then (frameR b p).bind fun r => decR b q (acc ++ [r.1]) r.2 else .error (6, p)) else .ok acc
theorem dec_F {k : Nat} (hk : 1250 ≤ k) {b : List Int} (hb : Bytes b) (hl : b.length ≤ 1200) : ∀ (q : Nat) (acc : List Fr) (p : Int), 0 ≤ p → p ≤ b.length → (b.length : Int) - p < q → iter (dec.s k) q (acc, (b, p)) = some (decR b q acc p) := by
 intro q
 induction q with
 | zero => intro acc p h0 h1 h2; omega
 | succ q ih =>
  intro acc p h0 h1 h2
  simp only [iter, dec.s, decR]
  by_cases hp : p < b.length
  ·rw [decide_eq_true hp, if_pos hp]
   by_cases ha : acc.length < 64
   ·rw [decide_eq_true (by omega : (acc.length : Int) < 64), if_pos ha]
    simp only [cond_true]
    rw [frame_F hk hb hl h0 hp]
    cases hf : frameR b p with
    | error z => rfl
    | ok r =>
     have hg := frame_good hb hl h0 hp hf
     have := ih (acc ++ [r.1]) r.2 (by have := hg.1; omega) hg.2.1 (by have := hg.1; omega)
     exact this
   ·rw [decide_eq_false (by omega : ¬ (acc.length : Int) < 64), if_neg ha]; rfl
  ·rw [decide_eq_false hp, if_neg hp]; rfl
def decP (b : List Int) (k : Nat) : List Fr × Int × Int := if 1200 < b.length then ([], 6, 0) else decO (decR b k [] 0)
theorem Decode_F {k : Nat} (hk : 1250 ≤ k) {b : List Int} (hb : Bytes b) : frames_Decode.F k b = some (decP b k) := by
 unfold frames_Decode.F decP
 by_cases hc : 1200 < b.length
 ·rw [decide_eq_true (by omega : (1200 : Int) < (b.length : Int)), if_pos hc]; rfl
 ·rw [decide_eq_false (by omega : ¬ (1200 : Int) < (b.length : Int)), if_neg hc, cond_false, dec_F hk hb (by omega) k [] 0 (by omega) (by omega) (by omega)]
  rfl
theorem dec_at {b : List Int} (l : List Fr) : ∀ (q : Nat) (acc : List Fr) (p : Int), l.all mayB = true → At b p (l.flatMap oneP) → p + (l.flatMap oneP).length = b.length → acc.length + l.length ≤ 64 → l.length < q → decR b q acc p = .ok (acc ++ l) := by
 induction l with
 | nil =>
  intro q acc p _ _ hp _ hq
  obtain ⟨q, rfl⟩ : ∃ j, q = j + 1 := ⟨q - 1, by simp at hq; omega⟩
  simp only [decR, List.flatMap_nil, List.length_nil] at hp ⊢
  rw [if_neg (by omega)]
  simp
 | cons x l ih =>
  intro q acc p hm ha hp h64 hq
  obtain ⟨q, rfl⟩ : ∃ j, q = j + 1 := ⟨q - 1, by omega⟩
  rw [List.all_cons, Bool.and_eq_true] at hm
  rw [List.flatMap_cons] at ha
  have h1 := one_len hm.1
  simp only [List.length_cons, List.flatMap_cons, List.length_append] at h64 hq hp
  rw [decR, if_pos (by omega), if_pos (by omega), frame_at hm.1 ha.left]
  simp only [Except.bind]
  rw [ih q _ _ hm.2 ha.right (by omega) (by rw [List.length_append, List.length_singleton]; omega) (by omega)]
  simp
theorem dec_enc {k : Nat} (hk : 1250 ≤ k) (l : List Fr) (h : l.all mayB = true) (h64 : l.length ≤ 64) (hl : (l.flatMap oneP).length ≤ 1200) : decP (l.flatMap oneP) k = (l, 0, 0) := by
 unfold decP
 rw [if_neg (by omega), dec_at l k [] 0 h ⟨[], [], by simp, rfl⟩ (by omega) (by simpa using h64) (by omega)]
 simp [decO]
end Go.Proofs.Ytpdchohbmmfemaa.X
