import Derived.Test.YtpdchohbmmfemaazFp9
namespace Go.Proofs.Ytpdchohbmmfemaa.X
open Go Go.RowKit Go.Proofs.YtpdchohbmmfemaaW.Rx Go.Proofs.Ytpdchohbmmfemaa.Plain Go.Proofs.YtpdchohbmmfemaaW.PrintWords
set_option linter.unusedVariables false
set_option linter.unusedSimpArgs false
set_option linter.unusedSectionVars false
theorem rmay_of (k : Nat) (x B : Fr) (hB : ref04_bare.F k x.1 x.2.1 x.2.2.1 x.2.2.2.1 x.2.2.2.2.1 x.2.2.2.2.2.1 x.2.2.2.2.2.2.1 x.2.2.2.2.2.2.2 = some (B.1, B.2.1, B.2.2.1, B.2.2.2.1, B.2.2.2.2.1, B.2.2.2.2.2.1, B.2.2.2.2.2.2.1, B.2.2.2.2.2.2.2, true)) (hb : Bytes B.2.2.2.2.2.2.1) (hx : Bytes x.2.2.2.2.2.2.1) (hs : B.2.2.2.2.2.2.2.length < 9223372036854775808 ∧ B.2.2.2.2.2.2.2.length < k) (hz : x.2.2.2.2.2.2.2.length < 9223372036854775808 ∧ x.2.2.2.2.2.2.2.length < k) (hd : x.2.2.2.2.2.2.1.length < 9223372036854775808)
  (hsh : decide (B = x) = shapeB x) : ref04_May.F k x.1 x.2.1 x.2.2.1 x.2.2.2.1 x.2.2.2.2.1 x.2.2.2.2.2.1 x.2.2.2.2.2.2.1 x.2.2.2.2.2.2.2 = some (mayB x) := by
 unfold ref04_May.F
 rw [hB]
 simp only [Option.bind_some]
 rw [rone_F k B x hb hx hs, rspans_F k _ hz.1 hz.2, wrap_in (4611686018427387903 - (x.2.2.2.2.2.2.1.length : Int)) (by omega) (by omega), hsh]
 simp only [Option.bind_some, rnum_F, bif_tf, bif_and, bif_nd, bif_imp, Bool.and_true, cond_true]
 unfold mayB
 have e : decide ((1200 : Int) < ((x.2.2.2.2.2.2.1.length : Nat) : Int)) = !decide (x.2.2.2.2.2.2.1.length ≤ 1200) := by
  rw [← decide_not, decide_eq_decide]; omega
 rw [e]
 have e2 : (bif x.1 != 2 then some true else some (spansB x.2.2.2.2.2.2.2)) = some ((x.1 != 2) || spansB x.2.2.2.2.2.2.2) := by cases (x.1 != 2) <;> rfl
 rw [e2]
 simp only [bif_and, bif_nd, Bool.not_not, List.all_cons, List.all_nil, Bool.and_true]
 congr 1
 generalize shapeB x = a
 generalize decide (x.2.2.2.2.2.2.1.length ≤ 1200) = b
 generalize may x.2.1 = c
 generalize may x.2.2.1 = d
 generalize may x.2.2.2.1 = e
 generalize may x.2.2.2.2.1 = f
 generalize decide (x.2.2.1 ≤ 4611686018427387903 - (x.2.2.2.2.2.2.1.length : Int)) = g
 generalize (x.1 != 2 || spansB x.2.2.2.2.2.2.2) = h
 cases a <;> cases b <;> cases c <;> cases d <;> cases e <;> cases f <;> cases g <;> rfl
theorem e0 (n : Int) : decide (0 = n) = decide (n = 0) := by rw [decide_eq_decide]; exact eq_comm
theorem eF (f : Bool) : decide (false = f) = !f := by cases f <;> rfl
theorem eN {α : Type} [DecidableEq α] (l : List α) : decide ([] = l) = decide (l = []) := by rw [decide_eq_decide]; exact eq_comm
theorem nilB : Bytes [] := fun x hx => by cases hx
theorem rmay_F (k : Nat) (x : Fr) (hx : Bytes x.2.2.2.2.2.2.1) (hk : x.2.2.2.2.2.2.2.length + 20 < k) (hd : x.2.2.2.2.2.2.1.length < 9223372036854775808) (hl : x.2.2.2.2.2.2.2.length < 9223372036854775808) : ref04_May.F k x.1 x.2.1 x.2.2.1 x.2.2.2.1 x.2.2.2.2.1 x.2.2.2.2.2.1 x.2.2.2.2.2.2.1 x.2.2.2.2.2.2.2 = some (mayB x) := by
 obtain ⟨kd, s, o, n, c, f, d, z⟩ := x
 simp only at hx hk hd hl
 by_cases c0 : kd = 0
 ·subst c0; exact rmay_of k _ (0, 0, 0, 0, 0, false, [], []) rfl nilB hx ⟨by simp, by simp; omega⟩ ⟨hl, by simp only; omega⟩ hd (by rw [fr_eq]; unfold shapeB; simp only [decide_true, e0, eF, eN, Bool.true_and, Bool.and_true, true_or, or_true, if_true, Int.reduceEq, or_self, if_false]; generalize decide (s = 0) = bs; generalize decide (o = 0) = bo; generalize decide (n = 0) = bn; generalize decide (c = 0) = bc; generalize decide (d = []) = bd; generalize decide (z = []) = bz; cases bs <;> cases bo <;> cases bn <;> cases bc <;> cases bd <;> cases bz <;> cases f <;> rfl)
 by_cases c1 : kd = 1
 ·subst c1; exact rmay_of k _ (1, 0, 0, 0, 0, false, [], []) rfl nilB hx ⟨by simp, by simp; omega⟩ ⟨hl, by simp only; omega⟩ hd (by rw [fr_eq]; unfold shapeB; simp only [decide_true, e0, eF, eN, Bool.true_and, Bool.and_true, true_or, or_true, if_true, Int.reduceEq, or_self, if_false]; generalize decide (s = 0) = bs; generalize decide (o = 0) = bo; generalize decide (n = 0) = bn; generalize decide (c = 0) = bc; generalize decide (d = []) = bd; generalize decide (z = []) = bz; cases bs <;> cases bo <;> cases bn <;> cases bc <;> cases bd <;> cases bz <;> cases f <;> rfl)
 by_cases c30 : kd = 30
 ·subst c30; exact rmay_of k _ (30, 0, 0, 0, 0, false, [], []) rfl nilB hx ⟨by simp, by simp; omega⟩ ⟨hl, by simp only; omega⟩ hd (by rw [fr_eq]; unfold shapeB; simp only [decide_true, e0, eF, eN, Bool.true_and, Bool.and_true, true_or, or_true, if_true, Int.reduceEq, or_self, if_false]; generalize decide (s = 0) = bs; generalize decide (o = 0) = bo; generalize decide (n = 0) = bn; generalize decide (c = 0) = bc; generalize decide (d = []) = bd; generalize decide (z = []) = bz; cases bs <;> cases bo <;> cases bn <;> cases bc <;> cases bd <;> cases bz <;> cases f <;> rfl)
 by_cases c2 : kd = 2
 ·subst c2; exact rmay_of k _ (2, 0, 0, n, 0, false, [], z) rfl nilB hx ⟨hl, by simp only; omega⟩ ⟨hl, by simp only; omega⟩ hd (by rw [fr_eq]; unfold shapeB; simp only [decide_true, e0, eF, eN, Bool.true_and, Bool.and_true, true_or, or_true, if_true, Int.reduceEq, or_self, if_false]; generalize decide (s = 0) = bs; generalize decide (o = 0) = bo; generalize decide (n = 0) = bn; generalize decide (c = 0) = bc; generalize decide (d = []) = bd; generalize decide (z = []) = bz; cases bs <;> cases bo <;> cases bn <;> cases bc <;> cases bd <;> cases bz <;> cases f <;> rfl)
 by_cases c4 : kd = 4
 ·subst c4; exact rmay_of k _ (4, s, o, 0, c, false, [], []) rfl nilB hx ⟨by simp, by simp; omega⟩ ⟨hl, by simp only; omega⟩ hd (by rw [fr_eq]; unfold shapeB; simp only [decide_true, e0, eF, eN, Bool.true_and, Bool.and_true, true_or, or_true, if_true, Int.reduceEq, or_self, if_false]; generalize decide (s = 0) = bs; generalize decide (o = 0) = bo; generalize decide (n = 0) = bn; generalize decide (c = 0) = bc; generalize decide (d = []) = bd; generalize decide (z = []) = bz; cases bs <;> cases bo <;> cases bn <;> cases bc <;> cases bd <;> cases bz <;> cases f <;> rfl)
 by_cases c5 : kd = 5
 ·subst c5; exact rmay_of k _ (5, s, 0, 0, c, false, [], []) rfl nilB hx ⟨by simp, by simp; omega⟩ ⟨hl, by simp only; omega⟩ hd (by rw [fr_eq]; unfold shapeB; simp only [decide_true, e0, eF, eN, Bool.true_and, Bool.and_true, true_or, or_true, if_true, Int.reduceEq, or_self, if_false]; generalize decide (s = 0) = bs; generalize decide (o = 0) = bo; generalize decide (n = 0) = bn; generalize decide (c = 0) = bc; generalize decide (d = []) = bd; generalize decide (z = []) = bz; cases bs <;> cases bo <;> cases bn <;> cases bc <;> cases bd <;> cases bz <;> cases f <;> rfl)
 by_cases c8 : kd = 8
 ·subst c8; exact rmay_of k _ (8, s, o, 0, 0, f, d, []) (by cases f <;> rfl) hx hx ⟨by simp, by simp; omega⟩ ⟨hl, by simp only; omega⟩ hd (by rw [fr_eq]; unfold shapeB; simp only [decide_true, e0, eF, eN, Bool.true_and, Bool.and_true, true_or, or_true, if_true, Int.reduceEq, or_self, if_false]; generalize decide (s = 0) = bs; generalize decide (o = 0) = bo; generalize decide (n = 0) = bn; generalize decide (c = 0) = bc; generalize decide (d = []) = bd; generalize decide (z = []) = bz; cases bs <;> cases bo <;> cases bn <;> cases bc <;> cases bd <;> cases bz <;> cases f <;> rfl)
 by_cases c16 : kd = 16
 ·subst c16; exact rmay_of k _ (16, 0, 0, n, 0, false, [], []) rfl nilB hx ⟨by simp, by simp; omega⟩ ⟨hl, by simp only; omega⟩ hd (by rw [fr_eq]; unfold shapeB; simp only [decide_true, e0, eF, eN, Bool.true_and, Bool.and_true, true_or, or_true, if_true, Int.reduceEq, or_self, if_false]; generalize decide (s = 0) = bs; generalize decide (o = 0) = bo; generalize decide (n = 0) = bn; generalize decide (c = 0) = bc; generalize decide (d = []) = bd; generalize decide (z = []) = bz; cases bs <;> cases bo <;> cases bn <;> cases bc <;> cases bd <;> cases bz <;> cases f <;> rfl)
 by_cases c18 : kd = 18
 ·subst c18; exact rmay_of k _ (18, 0, 0, n, 0, false, [], []) rfl nilB hx ⟨by simp, by simp; omega⟩ ⟨hl, by simp only; omega⟩ hd (by rw [fr_eq]; unfold shapeB; simp only [decide_true, e0, eF, eN, Bool.true_and, Bool.and_true, true_or, or_true, if_true, Int.reduceEq, or_self, if_false]; generalize decide (s = 0) = bs; generalize decide (o = 0) = bo; generalize decide (n = 0) = bn; generalize decide (c = 0) = bc; generalize decide (d = []) = bd; generalize decide (z = []) = bz; cases bs <;> cases bo <;> cases bn <;> cases bc <;> cases bd <;> cases bz <;> cases f <;> rfl)
 by_cases c17 : kd = 17
 ·subst c17; exact rmay_of k _ (17, s, 0, n, 0, false, [], []) rfl nilB hx ⟨by simp, by simp; omega⟩ ⟨hl, by simp only; omega⟩ hd (by rw [fr_eq]; unfold shapeB; simp only [decide_true, e0, eF, eN, Bool.true_and, Bool.and_true, true_or, or_true, if_true, Int.reduceEq, or_self, if_false]; generalize decide (s = 0) = bs; generalize decide (o = 0) = bo; generalize decide (n = 0) = bn; generalize decide (c = 0) = bc; generalize decide (d = []) = bd; generalize decide (z = []) = bz; cases bs <;> cases bo <;> cases bn <;> cases bc <;> cases bd <;> cases bz <;> cases f <;> rfl)
 by_cases c28 : kd = 28
 ·subst c28; exact rmay_of k _ (28, 0, 0, 0, c, false, d, []) rfl hx hx ⟨by simp, by simp; omega⟩ ⟨hl, by simp only; omega⟩ hd (by rw [fr_eq]; unfold shapeB; simp only [decide_true, e0, eF, eN, Bool.true_and, Bool.and_true, true_or, or_true, if_true, Int.reduceEq, or_self, if_false]; generalize decide (s = 0) = bs; generalize decide (o = 0) = bo; generalize decide (n = 0) = bn; generalize decide (c = 0) = bc; generalize decide (d = []) = bd; generalize decide (z = []) = bz; cases bs <;> cases bo <;> cases bn <;> cases bc <;> cases bd <;> cases bz <;> cases f <;> rfl)
 unfold ref04_May.F ref04_bare.F mayB shapeB
 simp only [beq_eq_false_iff_ne.mpr c0, beq_eq_false_iff_ne.mpr c1, beq_eq_false_iff_ne.mpr c30, beq_eq_false_iff_ne.mpr c2, beq_eq_false_iff_ne.mpr c8, beq_eq_false_iff_ne.mpr c4, beq_eq_false_iff_ne.mpr c5, beq_eq_false_iff_ne.mpr c17, beq_eq_false_iff_ne.mpr c16, beq_eq_false_iff_ne.mpr c18, beq_eq_false_iff_ne.mpr c28, c0, c1, c30, c2, c8, c4, c5, c17, c16, c18, c28, or_self, if_false, cond_false, Option.bind_some, Bool.false_and]
def ackF : Fr := (2, 0, 0, 0, 0, false, [], [(2, 3), (7, 9)])
theorem fits1 {k : Nat} (hk : 1250 ≤ k) {l : List Fr} (h64 : l.length ≤ 128) (hm : l.all mayB = true) (h : ∀ x ∈ l, x.1 ≠ 2 → x.2.2.2.2.2.2.2 = []) : Fits k l := by
 refine ⟨⟨by omega, by omega⟩, fun x hx => ?_⟩
 have hp := may_parts (List.all_eq_true.1 hm x hx)
 have hs : x.2.2.2.2.2.2.2.length ≤ 32 := by
  by_cases h2 : x.1 = 2
  ·have := hp.2.2.2.2.2.2.2 h2
   unfold spansB at this
   simp only [Bool.and_eq_true, decide_eq_true_eq] at this
   exact this.2.2
  ·rw [h x hx h2]; simp
 omega
theorem may_sp {x : Fr} (h : mayB x = true) : x.1 ≠ 2 → x.2.2.2.2.2.2.2 = [] := by
 intro h2
 have hk : shapeB x = true := (may_parts h).1
 unfold shapeB at hk
 simp only at hk
 split at hk
 ·simp only [Bool.and_eq_true, decide_eq_true_eq] at hk; exact hk.2
 split at hk
 ·simp only [Bool.and_eq_true, decide_eq_true_eq] at hk; exact hk.2
 split at hk
 ·simp only [Bool.and_eq_true, decide_eq_true_eq] at hk; exact hk.2
 split at hk
 ·simp only [Bool.and_eq_true, decide_eq_true_eq] at hk; exact hk.2
 split at hk
 ·simp only [Bool.and_eq_true, decide_eq_true_eq] at hk; exact hk.2
 split at hk
 ·simp only [Bool.and_eq_true, decide_eq_true_eq] at hk; exact hk.2
 split at hk
 ·simp only [Bool.and_eq_true, decide_eq_true_eq] at hk; exact hk.2
 ·cases hk
theorem fits_may {k : Nat} (hk : 1250 ≤ k) {l : List Fr} (h64 : l.length ≤ 128) (hm : l.all mayB = true) : Fits k l :=
 fits1 hk h64 hm fun x hx => may_sp (List.all_eq_true.1 hm x hx)
theorem alive_F {k : Nat} (hk : 1250 ≤ k) : law04_alive.F k = some true := by
 have hm : [ackF].all mayB = true := by decide
 have hb : [ackF].flatMap oneP = [2, 9, 0, 1, 2, 2, 1] := by decide
 have hf : Fits k [ackF] := fits_may hk (by simp) hm
 have hby : Bys [ackF] := fun x hx => by rw [List.mem_singleton.1 hx]; exact nilB
 have he : encP [ackF] = ([2, 9, 0, 1, 2, 2, 1], 0) := by
  unfold encP
  rw [if_neg (by decide), if_pos hm, hb]
  rfl
 have hd := dec_enc hk [ackF] hm (by decide) (by rw [hb]; decide)
 rw [hb] at hd
 have hbb : Bytes [2, 9, 0, 1, 2, 2, 1] := fun x hx => by simp at hx; omega
 unfold law04_alive.F
 have e1 : ([(2, 0, 0, 0, 0, false, [], ([(2, 3), (7, 9)] : List (Int × Int)))] : List Fr) = [ackF] := rfl
 rw [e1, Encode_F k [ackF] hf (by omega), he]
 simp only [Option.bind_some]
 rw [Decode_F hk hbb, hd]
 simp only [Option.bind_some]
 rw [rbytes_F k hbb hbb, rsame_F k [ackF] [ackF] hf hby hby]
 have hmm := may_F k ackF (by show 2 + 20 < k; omega) (by decide) (by decide)
 unfold ackF at hmm
 simp only at hmm
 rw [hmm]
 have h1 : mayB (2, 0, 0, 0, 0, false, [], [(2, 3), (7, 9)]) = true := by decide
 rw [h1, decide_eq_true rfl, decide_eq_true rfl]
 rfl
theorem enc_cases (l : List Fr) : (encP l = (l.flatMap oneP, 0) ∧ l.all mayB = true ∧ l.length ≤ 64 ∧ (l.flatMap oneP).length ≤ 1200) ∨ ∃ e, e ≠ 0 ∧ encP l = ([], e) := by
 unfold encP
 by_cases h : 64 < l.length
 ·rw [if_pos h]; exact Or.inr ⟨6, by decide, rfl⟩
 rw [if_neg h]
 by_cases hm : l.all mayB = true
 ·rw [if_pos hm]
  by_cases h2 : 1200 < (l.flatMap oneP).length
  ·rw [if_pos h2]; exact Or.inr ⟨6, by decide, rfl⟩
  ·rw [if_neg h2]; exact Or.inl ⟨rfl, hm, by omega, by omega⟩
 ·rw [if_neg hm]; exact Or.inr ⟨1, by decide, rfl⟩
end Go.Proofs.Ytpdchohbmmfemaa.X
