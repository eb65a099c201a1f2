import Derived.Test.YtpdchohbmmfemaazFp5
import Derived.Test.YtpdchohbmmfemaazFg
namespace Go.Proofs.Ytpdchohbmmfemaa.X
open Go Go.RowKit Go.Proofs.YtpdchohbmmfemaaW.Rx Go.Proofs.Ytpdchohbmmfemaa.Plain Go.Proofs.YtpdchohbmmfemaaW.PrintWords
set_option linter.unusedVariables false
set_option linter.unusedSimpArgs false
set_option linter.unusedSectionVars false
theorem wn_le (n : Int) : (wn n).length ≤ 8 := by
 have : mrk (szOf n) = 0 ∨ mrk (szOf n) = 1 ∨ mrk (szOf n) = 2 ∨ mrk (szOf n) = 3 := by
  unfold mrk; split
  ·exact Or.inl rfl
  ·split
   ·exact Or.inr (Or.inl rfl)
   ·split
    ·exact Or.inr (Or.inr (Or.inl rfl))
    ·exact Or.inr (Or.inr (Or.inr rfl))
 have hl := putw_len [] n (mrk (szOf n)) (by omega) (by omega)
 have := wide_bd (m := mrk (szOf n)) (by omega) (by omega)
 unfold wn
 simp only [List.length_nil] at hl
 omega
theorem wns_le (l : List Int) : (l.flatMap wn).length ≤ 8 * l.length := by
 induction l with
 | nil => simp
 | cons n l ih => have := wn_le n; simp only [List.flatMap_cons, List.length_append, List.length_cons]; omega
theorem gaps_le (r : List (Int × Int)) : ∀ low, (gapsB low r).length ≤ 16 * r.length := by
 induction r with
 | nil => intro low; simp [gapsB]
 | cons y r ih =>
  intro low
  have := ih y.1
  have := wn_le (low - 2 - y.2)
  have := wn_le (y.2 - y.1)
  simp only [gapsB, List.length_append, List.length_cons]
  omega
theorem may_parts {x : Fr} (h : mayB x = true) : shapeB x = true ∧ may x.2.1 = true ∧ may x.2.2.1 = true ∧ may x.2.2.2.1 = true ∧ may x.2.2.2.2.1 = true ∧ x.2.2.2.2.2.2.1.length ≤ 1200 ∧ x.2.2.1 ≤ 4611686018427387903 - (x.2.2.2.2.2.2.1.length : Int) ∧ (x.1 = 2 → spansB x.2.2.2.2.2.2.2 = true) := by
 unfold mayB at h
 simp only [Bool.and_eq_true, List.all_cons, List.all_nil, Bool.and_true, decide_eq_true_eq, Bool.or_eq_true, bne_iff_ne] at h
 obtain ⟨h1, ⟨h2, h3, h4, h5⟩, h6, h7, h8⟩ := h
 exact ⟨h1, h2, h3, h4, h5, h6, h7, fun e => h8.resolve_left (fun g => g e)⟩
theorem put_E (k : Nat) (hk : 12 ≤ k) (b l : List Int) (hl : l ≠ []) (hm : l.all may = true) (hb : b.length + 8 * l.length ≤ 140737488351232) : frames_put.F k b l = some (b ++ l.flatMap wn) := by
 rw [puts_F k hk b l hl hb, puts_eq l b hm]
theorem may_len {d : List Int} (h : d.length ≤ 1200) : may (d.length : Int) = true := (may_iff _).2 (by omega)
theorem put_D (k : Nat) (hk : 12 ≤ k) (b l d : List Int) (hl : l ≠ []) (hm : l.all may = true) (hb : b.length ≤ 10) (hl2 : l.length ≤ 10) (hd : d.length ≤ 1200) : ((frames_put.F k b l).bind fun s2_0 => bif decide ((s2_0.length + d.length) * 1 ≤ 140737488355328) then (some (((s2_0 ++ d)))) else none) = some (b ++ (l.flatMap wn ++ d)) := by
 rw [put_E k hk b l hl hm (by omega)]
 have := wns_le l
 simp only [Option.bind_some]
 rw [decide_eq_true (by rw [List.length_append]; omega), cond_true, List.append_assoc]
theorem oneA_F (k : Nat) (hk : 12 ≤ k) (x : Fr) (h : mayB x = true) : frames_oneA.F k x.1 x.2.1 x.2.2.1 x.2.2.2.1 x.2.2.2.2.1 x.2.2.2.2.2.1 x.2.2.2.2.2.2.1 x.2.2.2.2.2.2.2 = some (oneP x) := by
 obtain ⟨h1, h2, h3, h4, h5, h6, h7, h8⟩ := may_parts h
 obtain ⟨kd, s, o, n, c, f, d, z⟩ := x
 simp only at h2 h3 h4 h5 h6 h7 h8 ⊢
 unfold frames_oneA.F oneP
 simp only
 by_cases c2 : kd = 2
 ·subst c2
  have hz := h8 rfl
  have hz2 := hz
  unfold spansB at hz2
  simp only [Bool.and_eq_true, decide_eq_true_eq] at hz2
  rw [decide_eq_true (by omega : 0 < z.length ∧ z.length ≤ 101), ackB_eq n h4 hz]
  rfl
 rw [beq_eq_false_iff_ne.mpr c2, if_neg c2, cond_false]
 unfold frames_one.F
 rw [beq_eq_false_iff_ne.mpr c2, cond_false]
 by_cases c4 : kd = 4
 ·subst c4
  rw [put_E k hk [4] [s, c, o] (by simp) (by simp [h2, h3, h5]) (by simp)]
  rfl
 rw [beq_eq_false_iff_ne.mpr c4, if_neg c4, cond_false]
 by_cases c5 : kd = 5
 ·subst c5
  rw [put_E k hk [5] [s, c] (by simp) (by simp [h2, h5]) (by simp)]
  rfl
 rw [beq_eq_false_iff_ne.mpr c5, if_neg c5, cond_false]
 by_cases c8 : kd = 8
 ·subst c8
  rw [if_pos rfl]
  cases f with
  | true => exact put_D k hk [15] [s, o, (d.length : Int)] d (by simp) (by simp [h2, h3, may_len h6]) (by simp) (by simp) h6
  | false => exact put_D k hk [14] [s, o, (d.length : Int)] d (by simp) (by simp [h2, h3, may_len h6]) (by simp) (by simp) h6
 rw [beq_eq_false_iff_ne.mpr c8, if_neg c8, cond_false]
 by_cases c17 : kd = 17
 ·subst c17
  rw [put_E k hk [17] [s, n] (by simp) (by simp [h2, h4]) (by simp)]
  rfl
 rw [beq_eq_false_iff_ne.mpr c17, if_neg c17, cond_false]
 by_cases c16 : kd = 16
 ·subst c16
  have e : IntKind.wrap IntKind.u8 16 = 16 := rfl
  rw [e, put_E k hk [16] [n] (by simp) (by simp [h4]) (by simp)]
  rfl
 by_cases c18 : kd = 18
 ·subst c18
  have e : IntKind.wrap IntKind.u8 18 = 18 := rfl
  rw [e, put_E k hk [18] [n] (by simp) (by simp [h4]) (by simp)]
  rfl
 rw [beq_eq_false_iff_ne.mpr c16, beq_eq_false_iff_ne.mpr c18, if_neg (by omega : ¬ (kd = 16 ∨ kd = 18)), cond_false, cond_false]
 by_cases c28 : kd = 28
 ·subst c28
  rw [if_pos rfl]
  exact put_D k hk [28] [c, (d.length : Int)] d (by simp) (by simp [h5, may_len h6]) (by simp) (by simp) h6
 rw [beq_eq_false_iff_ne.mpr c28, if_neg c28, cond_false]
 unfold shapeB at h1
 simp only [c2, c8, c4, c5, c17, c16, c18, c28, or_self, if_false] at h1
 by_cases c0 : kd = 0 ∨ kd = 1 ∨ kd = 30
 ·rcases c0 with rfl | rfl | rfl <;> rfl
 ·rw [if_neg c0] at h1; cases h1
theorem one_len {x : Fr} (h : mayB x = true) : 1 ≤ (oneP x).length ∧ (oneP x).length ≤ 1300 := by
 obtain ⟨h1, h2, h3, h4, h5, h6, h7, h8⟩ := may_parts h
 unfold oneP
 simp only
 by_cases c2 : x.1 = 2
 ·rw [if_pos c2]
  obtain ⟨z, r, hr, hz, hd, hl⟩ := spans_desc (h8 c2)
  rw [hr]
  unfold ackP
  have := wns_le [z.2, x.2.2.2.1, (r.length : Int)]
  have := gaps_le r z.1
  have := wn_le (z.2 - z.1)
  simp only [List.length_append, List.length_cons, List.length_nil] at *
  omega
 rw [if_neg c2]
 have a3 := wns_le [x.2.1, x.2.2.2.2.1, x.2.2.1]
 have a2 := wns_le [x.2.1, x.2.2.2.2.1]
 have a5 := wns_le [x.2.1, x.2.2.1, (x.2.2.2.2.2.2.1.length : Int)]
 have a6 := wns_le [x.2.1, x.2.2.2.1]
 have a7 := wns_le [x.2.2.2.1]
 have a8 := wns_le [x.2.2.2.2.1, (x.2.2.2.2.2.2.1.length : Int)]
 simp only [List.length_cons, List.length_nil] at a3 a2 a5 a6 a7 a8
 split
 ·simp only [List.length_append, List.length_cons, List.length_nil]; omega
 split
 ·simp only [List.length_append, List.length_cons, List.length_nil]; omega
 split
 ·simp only [List.length_append, List.length_cons, List.length_nil]; omega
 split
 ·simp only [List.length_append, List.length_cons, List.length_nil]; omega
 split
 ·simp only [List.length_append, List.length_cons, List.length_nil]; omega
 split
 ·simp only [List.length_append, List.length_cons, List.length_nil]; omega
 ·simp
theorem ones_len (l : List Fr) (h : l.all mayB = true) : l.length ≤ (l.flatMap oneP).length ∧ (l.flatMap oneP).length ≤ 1300 * l.length := by
 induction l with
 | nil => simp
 | cons x l ih =>
  rw [List.all_cons, Bool.and_eq_true] at h
  have := ih h.2
  have := one_len h.1
  simp only [List.flatMap_cons, List.length_append, List.length_cons]
  omega
def encP (l : List Fr) : List Int × Int := if 64 < l.length then ([], 6) else if l.all mayB = true then (if 1200 < (l.flatMap oneP).length then ([], 6) else (l.flatMap oneP, 0)) else ([], 1)
structure Fits (k : Nat) (l : List Fr) : Prop where
 len : l.length < 9223372036854775808 ∧ l.length + 20 < k
 el : ∀ x ∈ l, x.2.2.2.2.2.2.2.length + 20 < k ∧ x.2.2.2.2.2.2.2.length < 9223372036854775808 ∧ x.2.2.2.2.2.2.1.length + 20 < k ∧ x.2.2.2.2.2.2.1.length < 9223372036854775808
theorem any_F (k : Nat) (l : List Fr) (hf : Fits k l) (hk : 100 ≤ k) : contains21.F k l = some (!l.all mayB) := by
 unfold contains21.F index40.F
 obtain ⟨i, h1, h2⟩ := find_idx l (by have := hf.len; omega) (index40.s0 k l) (fun x => !mayB x) (fun j x hx => by
  have hj := (List.getElem?_eq_some_iff.1 hx).1
  have hf2 := hf.el x (List.mem_of_getElem? hx)
  unfold index40.s0 frames_Encode_1.F
  rw [decide_eq_true (by omega : (j : Int) < ((l.length : Nat) : Int)), getI_some hx]
  simp only [cond_true, Option.bind_some]
  rw [may_F k x hf2.1 hf2.2.2.2 hf2.2.1]
  simp only [Option.bind_some]
  cases mayB x <;> rfl) (by
  unfold index40.s0
  rw [decide_eq_false (by omega : ¬ ((l.length : Nat) : Int) < ((l.length : Nat) : Int))]; rfl) k (by have := hf.len; omega)
 rw [h1]
 simp only [Option.bind_some, h2, bif_tf]
 congr 1
 rw [List.any_eq_not_all_not]
 simp
theorem enc_fold {ρ : Type} (fin : List Int → Option ρ) (l : List Fr) : ∀ (t : List Int), t.length + (l.flatMap oneP).length ≤ 140737488355328 → foldE (fun t x => bif decide ((t.length + (oneP x).length) * 1 ≤ 140737488355328) then some (.inl (t ++ oneP x)) else none) fin l t = fin (t ++ l.flatMap oneP) := by
 induction l with
 | nil => intro t _; simp [foldE]
 | cons x l ih =>
  intro t ht
  simp only [List.flatMap_cons, List.length_append] at ht
  simp only [foldE]
  rw [decide_eq_true (by omega)]
  simp only [cond_true, Option.bind_some]
  rw [ih _ (by rw [List.length_append]; omega), List.flatMap_cons, List.append_assoc]
theorem Encode_F (k : Nat) (l : List Fr) (hf : Fits k l) (hk : 100 ≤ k) : frames_Encode.F k l = some (encP l) := by
 unfold frames_Encode.F encP
 by_cases h64 : 64 < l.length
 ·rw [decide_eq_true (by omega : (64 : Int) < ((l.length : Nat) : Int)), if_pos h64]; rfl
 rw [decide_eq_false (by omega : ¬ (64 : Int) < ((l.length : Nat) : Int)), if_neg h64, any_F k l hf hk]
 simp only [cond_false, Option.bind_some]
 cases hm : l.all mayB with
 | false => rfl
 | true =>
  simp only [Bool.not_true, cond_false, if_true]
  have hlen := ones_len l hm
  have : iter (frames_Encode.s1 k l) k ([], 0) = _ := iter_idx l (frames_Encode.s1 k l) (fun j (t : List Int) => (t, (j : Int))) (fun t x => bif decide ((t.length + (oneP x).length) * 1 ≤ 140737488355328) then some (.inl (t ++ oneP x)) else none) (fun t => some (if 1200 < t.length then ([], 6) else (t, 0))) (fun j t x hx hj => by
   unfold frames_Encode.s1
   simp only
   rw [decide_eq_true (by omega : (j : Int) < ((l.length : Nat) : Int)), getI_some hx]
   simp only [cond_true, Option.bind_some]
   rw [oneA_F k (by omega) x (List.all_eq_true.1 hm x (List.mem_of_getElem? hx))]
   simp only [Option.bind_some]
   rw [wrap_in ((j : Int) + 1) (by omega) (by omega)]
   cases decide ((t.length + (oneP x).length) * 1 ≤ 140737488355328) <;> rfl) (fun t => by
   unfold frames_Encode.s1
   simp only
   rw [decide_eq_false (by omega : ¬ ((l.length : Nat) : Int) < ((l.length : Nat) : Int))]
   by_cases ht : 1200 < t.length
   ·rw [decide_eq_true (by omega : (1200 : Int) < ((t.length : Nat) : Int)), if_pos ht]; rfl
   ·rw [decide_eq_false (by omega : ¬ (1200 : Int) < ((t.length : Nat) : Int)), if_neg ht]; rfl) k [] (by omega)
  rw [this, enc_fold _ l [] (by rw [List.length_nil]; omega)]
  rfl
end Go.Proofs.Ytpdchohbmmfemaa.X
