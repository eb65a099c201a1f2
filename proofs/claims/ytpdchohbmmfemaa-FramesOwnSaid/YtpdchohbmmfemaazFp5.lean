import Derived.Test.YtpdchohbmmfemaazFp4
import Derived.Test.YtpdchohbmmfemaazOn3
namespace Go.Proofs.Ytpdchohbmmfemaa.X
open Go Go.RowKit Go.Proofs.YtpdchohbmmfemaaW.Rx Go.Proofs.Ytpdchohbmmfemaa.Plain Go.Proofs.YtpdchohbmmfemaaW.PrintWords
set_option linter.unusedVariables false
set_option linter.unusedSimpArgs false
set_option linter.unusedSectionVars false
def wn (n : Int) : List Int := putw [] n (mrk (szOf n))
theorem putP_eq (b : List Int) {n : Int} (h : may n = true) : putP b n = b ++ wn n := by
 unfold putP wn
 rw [if_pos h]
 simp [putn, putw]
theorem puts_eq (l : List Int) : ∀ (b : List Int), l.all may = true → l.foldl putP b = b ++ l.flatMap wn := by
 induction l with
 | nil => intro b _; simp
 | cons n l ih =>
  intro b h
  rw [List.all_cons, Bool.and_eq_true] at h
  rw [List.foldl_cons, putP_eq b h.1, ih _ h.2, List.flatMap_cons, List.append_assoc]
def gapsB : Int → List (Int × Int) → List Int
 | _, [] => []
 | low, y :: r => wn (low - 2 - y.2) ++ (wn (y.2 - y.1) ++ gapsB y.1 r)
def ackP (n : Int) : List (Int × Int) → List Int
 | [] => []
 | z :: r => [2] ++ ([z.2, n, (r.length : Int)].flatMap wn ++ (wn (z.2 - z.1) ++ gapsB z.1 r))
def oneP (x : Fr) : List Int :=
 let s := x.2.1
 let o := x.2.2.1
 let n := x.2.2.2.1
 let c := x.2.2.2.2.1
 let d := x.2.2.2.2.2.2.1
 if x.1 = 2 then ackP n x.2.2.2.2.2.2.2.reverse
 else if x.1 = 4 then [4] ++ [s, c, o].flatMap wn
 else if x.1 = 5 then [5] ++ [s, c].flatMap wn
 else if x.1 = 8 then [bif x.2.2.2.2.2.1 then 15 else 14] ++ ([s, o, (d.length : Int)].flatMap wn ++ d)
 else if x.1 = 17 then [17] ++ [s, n].flatMap wn
 else if x.1 = 16 ∨ x.1 = 18 then [x.1] ++ [n].flatMap wn
 else if x.1 = 28 then [28] ++ ([c, (d.length : Int)].flatMap wn ++ d)
 else [x.1]
def okS (z : Int × Int) : Prop := 0 ≤ z.1 ∧ z.1 ≤ z.2 ∧ z.2 ≤ 4611686018427387903
theorem chain_pw (l : List (Int × Int)) : ∀ (low : Int), chainB low l = true → (∀ z ∈ l, okS z ∧ low ≤ z.1 - 2) ∧ l.Pairwise (fun a b => a.2 ≤ b.1 - 2) := by
 induction l with
 | nil => intro low _; exact ⟨fun z hz => (by cases hz), .nil⟩
 | cons z l ih =>
  intro low h
  unfold chainB at h
  simp only [Bool.and_eq_true, may_iff, decide_eq_true_eq] at h
  obtain ⟨h1, h2⟩ := ih _ h.2
  refine ⟨fun y hy => ?_, List.Pairwise.cons (fun y hy => (h1 y hy).2) h2⟩
  rcases List.mem_cons.1 hy with rfl | hy
  ·exact ⟨⟨h.1.1.1.1.1, by omega, by omega⟩, by omega⟩
  ·have := h1 y hy
   exact ⟨this.1, by omega⟩
theorem pw_chain (l : List (Int × Int)) : ∀ (low : Int), (∀ z ∈ l, okS z ∧ low ≤ z.1 - 2) → l.Pairwise (fun a b => a.2 ≤ b.1 - 2) → chainB low l = true := by
 induction l with
 | nil => intro low _ _; rfl
 | cons z l ih =>
  intro low h hp
  unfold chainB
  have hz := h z (by simp)
  obtain ⟨p1, p2⟩ := List.pairwise_cons.1 hp
  rw [ih z.2 (fun y hy => ⟨(h y (by simp [hy])).1, p1 y hy⟩) p2]
  obtain ⟨⟨a, b, c⟩, d⟩ := hz
  simp only [Bool.and_eq_true, may_iff, decide_eq_true_eq, and_true]
  refine ⟨⟨⟨⟨by omega, by omega⟩, by omega, by omega⟩, by omega⟩, by omega⟩
def Desc : Int → List (Int × Int) → Prop
 | _, [] => True
 | low, y :: r => okS y ∧ y.2 ≤ low - 2 ∧ Desc y.1 r
theorem pw_desc (r : List (Int × Int)) : ∀ (low : Int), (∀ z ∈ r, okS z ∧ z.2 ≤ low - 2) → r.Pairwise (fun a b => b.2 ≤ a.1 - 2) → Desc low r := by
 induction r with
 | nil => intro low _ _; trivial
 | cons z l ih =>
  intro low h hp
  obtain ⟨p1, p2⟩ := List.pairwise_cons.1 hp
  exact ⟨(h z (by simp)).1, (h z (by simp)).2, ih z.1 (fun y hy => ⟨(h y (by simp [hy])).1, p1 y hy⟩) p2⟩
theorem desc_pw (r : List (Int × Int)) : ∀ (low : Int), Desc low r → (∀ z ∈ r, okS z ∧ z.2 ≤ low - 2) ∧ r.Pairwise (fun a b => b.2 ≤ a.1 - 2) := by
 induction r with
 | nil => intro low _; exact ⟨fun z hz => (by cases hz), .nil⟩
 | cons z l ih =>
  intro low h
  obtain ⟨h1, h2⟩ := ih _ h.2.2
  refine ⟨fun y hy => ?_, List.Pairwise.cons (fun y hy => (h1 y hy).2) h2⟩
  rcases List.mem_cons.1 hy with rfl | hy
  ·exact ⟨h.1, h.2.1⟩
  ·have := h1 y hy
   have := h.1
   unfold okS at this
   exact ⟨(h1 y hy).1, by have := h.2.1; omega⟩
theorem spans_desc {l : List (Int × Int)} (h : spansB l = true) : ∃ z r, l.reverse = z :: r ∧ okS z ∧ Desc z.1 r ∧ r.length ≤ 31 := by
 unfold spansB at h
 simp only [Bool.and_eq_true, decide_eq_true_eq] at h
 obtain ⟨h1, h2⟩ := chain_pw l _ h.1
 have hp := List.pairwise_reverse.2 (List.Pairwise.imp (S := fun a b => (fun (a b : Int × Int) => b.2 ≤ a.1 - 2) b a) (fun h => h) h2)
 cases hr : l.reverse with
 | nil => rw [List.reverse_eq_nil_iff] at hr; subst hr; simp at h
 | cons z r =>
  rw [hr] at hp
  obtain ⟨p1, p2⟩ := List.pairwise_cons.1 hp
  have hm : ∀ y ∈ z :: r, okS y := fun y hy => (h1 y (by rw [← hr] at hy; exact List.mem_reverse.1 hy)).1
  refine ⟨z, r, rfl, hm z (by simp), pw_desc r _ (fun y hy => ⟨hm y (by simp [hy]), p1 y hy⟩) p2, ?_⟩
  have := congrArg List.length hr
  rw [List.length_reverse, List.length_cons] at this
  omega
theorem desc_spans {z : Int × Int} {r : List (Int × Int)} (hz : okS z) (h : Desc z.1 r) (hl : r.length ≤ 31) : spansB (z :: r).reverse = true := by
 obtain ⟨h1, h2⟩ := desc_pw r _ h
 unfold spansB
 rw [Bool.and_eq_true]
 refine ⟨pw_chain _ _ (fun y hy => ?_) (List.pairwise_reverse.2 (List.Pairwise.cons (fun y hy => (h1 y hy).2) h2)), by simp; omega⟩
 rw [List.mem_reverse] at hy
 rcases List.mem_cons.1 hy with rfl | hy
 ·exact ⟨hz, by have := hz.1; omega⟩
 ·exact ⟨(h1 y hy).1, by have := (h1 y hy).1.1; omega⟩
theorem bk_snoc (pre : List (Int × Int)) (z : Int × Int) : bk (pre ++ [z]) (pre.length + 1) = (pre.length, z) :: bk pre pre.length := by
 unfold bk
 rw [List.range_succ_eq_map, List.map_cons, List.map_map]
 have hl : (pre ++ [z]).length = pre.length + 1 := by simp
 rw [hl]
 congr 1
 ·simp
 ·refine List.map_congr_left (fun j hj => ?_)
  have hj := List.mem_range.1 hj
  show (pre.length + 1 - 1 - (j + 1), (pre ++ [z])[pre.length + 1 - 1 - (j + 1)]?.getD (0, 0)) = _
  rw [show pre.length + 1 - 1 - (j + 1) = pre.length - 1 - j by omega, List.getElem?_append_left (by omega)]
theorem acc_gaps (m : Nat) (r : List (Int × Int)) : ∀ (b : List Int) (low : Int), r.length ≤ m → low ≤ 4611686018427387903 → Desc low r → (accA b low m (bk r.reverse r.length)).1 = b ++ gapsB low r := by
 induction r with
 | nil => intro b low _ _ _; simp [bk, accA, gapsB]
 | cons y r ih =>
  intro b low hm h0 hd
  obtain ⟨⟨a1, a2, a3⟩, hy, hd⟩ := hd
  simp only [List.length_cons] at hm
  rw [List.reverse_cons, show (y :: r).length = r.reverse.length + 1 by simp, bk_snoc]
  unfold accA
  rw [List.foldl_cons]
  have hs : stepA m (b, low) (r.reverse.length, y) = (b ++ (wn (low - 2 - y.2) ++ wn (y.2 - y.1)), y.1) := by
   unfold stepA
   rw [List.length_reverse]
   simp only
   rw [decide_eq_true (by omega : (r.length : Int) < (m : Int)), w64 (low - 2) (by omega), w64 (low - 2 - y.2) (by omega), w64 (y.2 - y.1) (by omega), cond_true, putP_eq _ ((may_iff _).2 (by omega)), putP_eq _ ((may_iff _).2 (by omega)), List.append_assoc]
  rw [hs]
  have := ih (b ++ (wn (low - 2 - y.2) ++ wn (y.2 - y.1))) y.1 (by omega) (by omega) hd
  unfold accA at this
  rw [List.length_reverse, this]
  simp [gapsB]
theorem ackB_eq (n : Int) (hn : may n = true) {l : List (Int × Int)} (h : spansB l = true) : ackB n l = ackP n l.reverse := by
 obtain ⟨z, r, hr, ⟨a1, a2, a3⟩, hd, hl⟩ := spans_desc h
 have e : l = r.reverse ++ [z] := by rw [← List.reverse_reverse l, hr, List.reverse_cons]
 rw [hr, e]
 unfold ackB
 have ez : (r.reverse ++ [z])[(r.reverse ++ [z]).length - 1]?.getD (0, 0) = z := by simp
 rw [ez, w64 (z.2 + 2) (by omega), w64 (z.2 + 2 - 2) (by omega), show z.2 + 2 - 2 = z.2 by omega]
 have el : (r.reverse ++ [z]).length = r.reverse.length + 1 := by simp
 rw [el, bk_snoc, Nat.add_sub_cancel]
 unfold accA
 rw [List.foldl_cons]
 have hp : [z.2, n, ((r.reverse.length : Nat) : Int)].foldl putP [2] = [2] ++ [z.2, n, (r.length : Int)].flatMap wn := by
  rw [puts_eq _ _ (by rw [List.length_reverse]; simp only [List.all_cons, List.all_nil, Bool.and_true, Bool.and_eq_true, hn, may_iff, true_and]; omega), List.length_reverse]
 rw [hp]
 have hs : stepA r.reverse.length ([2] ++ [z.2, n, (r.length : Int)].flatMap wn, z.2 + 2) (r.reverse.length, z) = ([2] ++ [z.2, n, (r.length : Int)].flatMap wn ++ wn (z.2 - z.1), z.1) := by
  unfold stepA
  simp only
  rw [decide_eq_false (by omega : ¬ (r.reverse.length : Int) < (r.reverse.length : Int)), w64 (z.2 - z.1) (by omega), cond_false, putP_eq _ ((may_iff _).2 (by omega))]
 rw [hs]
 have := acc_gaps r.reverse.length r ([2] ++ [z.2, n, (r.length : Int)].flatMap wn ++ wn (z.2 - z.1)) z.1 (by simp) (by omega) hd
 unfold accA at this
 rw [List.length_reverse] at this ⊢
 rw [this]
 simp [ackP]
end Go.Proofs.Ytpdchohbmmfemaa.X
