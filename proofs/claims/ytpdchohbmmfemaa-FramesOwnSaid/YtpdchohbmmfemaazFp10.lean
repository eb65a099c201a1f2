import Derived.Test.YtpdchohbmmfemaazFp9
namespace Go.Proofs.Ytpdchohbmmfemaa.X
open Go Go.RowKit Go.Proofs.YtpdchohbmmfemaaW.Rx Go.Proofs.Ytpdchohbmmfemaa.Plain Go.Proofs.YtpdchohbmmfemaaW.PrintWords
set_option linter.unusedVariables false
set_option linter.unusedSimpArgs false
set_option linter.unusedSectionVars false
theorem e0 (n : Int) : decide (0 = n) = decide (n = 0) := by rw [decide_eq_decide]; exact eq_comm
theorem nilB : Bytes [] := fun x hx => by cases hx
def ackF : Fr := (2, 0, 0, 0, 0, false, [], [(2, 3), (7, 9)])
theorem fits1 {k : Nat} (hk : 1250 ≤ k) {l : List Fr} (h64 : l.length ≤ 128) (hm : l.all mayB = true) (h : ∀ x ∈ l, x.1 ≠ 2 → x.2.2.2.2.2.2.2 = []) : Fits k l := by
 refine ⟨⟨by omega, by omega⟩, fun x hx => ?_⟩
 have hp := may_parts (List.all_eq_true.1 hm x hx)
 have hs : x.2.2.2.2.2.2.2.length ≤ 32 := by
  by_cases h2 : x.1 = 2
  ·have := hp.2.2.2.2.2.2.2 h2
   unfold spansB at this
   simp only [Bool.and_eq_true, decide_eq_true_eq] at this
   exact this.2.2
  ·rw [h x hx h2]; simp
 omega
theorem may_sp {x : Fr} (h : mayB x = true) : x.1 ≠ 2 → x.2.2.2.2.2.2.2 = [] := by
 intro h2
 have hk : shapeB x = true := (may_parts h).1
 unfold shapeB at hk
 simp only at hk
 split at hk
 ·simp only [Bool.and_eq_true, decide_eq_true_eq] at hk; exact hk.2
 split at hk
 ·simp only [Bool.and_eq_true, decide_eq_true_eq] at hk; exact hk.2
 split at hk
 ·simp only [Bool.and_eq_true, decide_eq_true_eq] at hk; exact hk.2
 split at hk
 ·simp only [Bool.and_eq_true, decide_eq_true_eq] at hk; exact hk.2
 split at hk
 ·simp only [Bool.and_eq_true, decide_eq_true_eq] at hk; exact hk.2
 split at hk
 ·simp only [Bool.and_eq_true, decide_eq_true_eq] at hk; exact hk.2
 split at hk
 ·simp only [Bool.and_eq_true, decide_eq_true_eq] at hk; exact hk.2
 ·cases hk
theorem fits_may {k : Nat} (hk : 1250 ≤ k) {l : List Fr} (h64 : l.length ≤ 128) (hm : l.all mayB = true) : Fits k l :=
 fits1 hk h64 hm fun x hx => may_sp (List.all_eq_true.1 hm x hx)
theorem alive_F {k : Nat} (hk : 1250 ≤ k) : law04_alive.F k = some true := by
 have hm : [ackF].all mayB = true := by decide
 have hb : [ackF].flatMap oneP = [2, 9, 0, 1, 2, 2, 1] := by decide
 have hf : Fits k [ackF] := fits_may hk (by simp) hm
 have hby : Bys [ackF] := fun x hx => by rw [List.mem_singleton.1 hx]; exact nilB
 have he : encP [ackF] = ([2, 9, 0, 1, 2, 2, 1], 0) := by
  unfold encP
  rw [if_neg (by decide), if_pos hm, hb]
  rfl
 have hd := dec_enc hk [ackF] hm (by decide) (by rw [hb]; decide)
 rw [hb] at hd
 have hbb : Bytes [2, 9, 0, 1, 2, 2, 1] := fun x hx => by simp at hx; omega
 unfold law04_alive.F
 have e1 : ([(2, 0, 0, 0, 0, false, [], ([(2, 3), (7, 9)] : List (Int × Int)))] : List Fr) = [ackF] := rfl
 rw [e1, Encode_F k [ackF] hf (by omega), he]
 simp only [Option.bind_some]
 rw [Decode_F hk hbb, hd]
 simp only [Option.bind_some]
 rw [rbytes_F k hbb hbb, rsame_F k [ackF] [ackF] hf hby hby]
 have hmm := may_F k ackF (by show 2 + 20 < k; omega) (by decide) (by decide)
 unfold ackF at hmm
 simp only at hmm
 rw [hmm]
 have h1 : mayB (2, 0, 0, 0, 0, false, [], [(2, 3), (7, 9)]) = true := by decide
 rw [h1, decide_eq_true rfl, decide_eq_true rfl]
 rfl
end Go.Proofs.Ytpdchohbmmfemaa.X
