import Derived.Test.YtpdchohbmmfemaazFp8
import Derived.Test.YtpdchohbmmfemaazRxU
import Derived.Test.YtpdchohbmmfemaazRxSeat
import Derived.Test.YtpdchohbmmfemaaProg
import Derived.Test.YtpdchohbmmfemaazOn3
import Derived.Test.YtpdchohbmmfemaazDc5
import Derived.Test.YtpdchohbmmfemaazFg
namespace Go.Proofs.Ytpdchohbmmfemaa.X
open Go Go.RowKit Go.Proofs.YtpdchohbmmfemaaW.Rx Go.Proofs.Ytpdchohbmmfemaa.Plain Go.Proofs.YtpdchohbmmfemaaW.PrintWords
set_option linter.unusedVariables false
set_option linter.unusedSimpArgs false
set_option linter.unusedSectionVars false
theorem zip_same {α : Type} [DecidableEq α] (a : List α) : ∀ (b : List α), b.length = a.length → (a.zip b).all (fun z => decide (z.1 = z.2)) = decide (a = b) := by
 induction a with
 | nil => intro b h; rw [List.length_eq_zero_iff.1 h]; rfl
 | cons x a ih =>
  intro b h
  cases b with
  | nil => simp at h
  | cons y b =>
   rw [List.zip_cons_cons, List.all_cons, ih b (by simpa using h)]
   rw [Bool.eq_iff_iff]
   simp
theorem lens_ne {α β : Type} (a : List α) (b : List β) : (((a.length : Nat) : Int) != ((b.length : Nat) : Int)) = !decide (b.length = a.length) := by
 rw [bne, Bool.not_inj_iff, b_eq, decide_eq_decide]
 omega
theorem eq_len {α : Type} [DecidableEq α] {a b : List α} (h : ¬ b.length = a.length) : decide (a = b) = false := decide_eq_false (fun e => h (by rw [e]))
theorem sp_eq (a b : Int × Int) : (a.1 == b.1 && (a.2 == b.2 && true)) = decide (a = b) := by
 rw [Bool.and_true, b_eq, b_eq, Bool.eq_iff_iff]
 obtain ⟨a1, a2⟩ := a
 obtain ⟨b1, b2⟩ := b
 simp
theorem sspans_F (k : Nat) (a b : List (Int × Int)) (ha : a.length < 9223372036854775808) (hk : a.length < k) : ref04_SameSpans.F k a b = some (decide (a = b)) := by
 unfold ref04_SameSpans.F
 rw [lens_ne]
 by_cases h : b.length = a.length
 ·rw [decide_eq_true h, all2_idx a b h ha (ref04_SameSpans.s0 k a b) (fun x y => decide (x = y)) true false (fun j x y hx hy => by
   have hj := (List.getElem?_eq_some_iff.1 hx).1
   unfold ref04_SameSpans.s0
   rw [decide_eq_true (by omega : (j : Int) < ((a.length : Nat) : Int)), getI_some hx, getI_some hy]
   simp only [cond_true, Option.bind_some, sp_eq]
   cases decide (x = y) <;> rfl) (by
   unfold ref04_SameSpans.s0
   rw [decide_eq_false (by omega : ¬ ((a.length : Nat) : Int) < ((a.length : Nat) : Int))]; rfl) k hk, zip_same a b h]
  cases decide (a = b) <;> rfl
 ·rw [decide_eq_false h, eq_len h]; rfl
theorem rbytes_F (k : Nat) {a b : List Int} (ha : Bytes a) (hb : Bytes b) : ref01_Same.F k a b = some (decide (a = b)) := by
 unfold ref01_Same.F
 rw [strOf_inj ha hb, bif_tf]
noncomputable instance frDec : DecidableEq Fr := fun a b => Classical.propDecidable _
theorem fr_eq (x y : Fr) : decide (x = y) = (decide (x.1 = y.1) && (decide (x.2.1 = y.2.1) && (decide (x.2.2.1 = y.2.2.1) && (decide (x.2.2.2.1 = y.2.2.2.1) && (decide (x.2.2.2.2.1 = y.2.2.2.2.1) && (decide (x.2.2.2.2.2.1 = y.2.2.2.2.2.1) && (decide (x.2.2.2.2.2.2.1 = y.2.2.2.2.2.2.1) && decide (x.2.2.2.2.2.2.2 = y.2.2.2.2.2.2.2)))))))) := by
 obtain ⟨a, b, c, d, e, f, g, h⟩ := x
 obtain ⟨a', b', c', d', e', f', g', h'⟩ := y
 rw [Bool.eq_iff_iff]
 simp
theorem two_b (f g R : Bool) : (bif f then some (g && R) else some (!g && R)) = some (decide (f = g) && R) := by cases f <;> cases g <;> cases R <;> rfl
theorem rone_F (k : Nat) (x y : Fr) (hx : Bytes x.2.2.2.2.2.2.1) (hy : Bytes y.2.2.2.2.2.2.1) (hs : x.2.2.2.2.2.2.2.length < 9223372036854775808 ∧ x.2.2.2.2.2.2.2.length < k) : ref04_one.F k x.1 x.2.1 x.2.2.1 x.2.2.2.1 x.2.2.2.2.1 x.2.2.2.2.2.1 x.2.2.2.2.2.2.1 x.2.2.2.2.2.2.2 y.1 y.2.1 y.2.2.1 y.2.2.2.1 y.2.2.2.2.1 y.2.2.2.2.2.1 y.2.2.2.2.2.2.1 y.2.2.2.2.2.2.2 = some (decide (x = y)) := by
 unfold ref04_one.F
 rw [rbytes_F k hx hy, sspans_F k _ _ hs.1 hs.2, fr_eq]
 simp only [Option.bind_some, bif_tf, bif_and, bif_nd, Bool.and_true, two_b, b_eq]
def Bys (l : List Fr) : Prop := ∀ x ∈ l, Bytes x.2.2.2.2.2.2.1
theorem rsame_F (k : Nat) (a b : List Fr) (hf : Fits k a) (ha : Bys a) (hb : Bys b) : ref04_Same.F k a b = some (decide (a = b)) := by
 unfold ref04_Same.F
 rw [lens_ne]
 by_cases h : b.length = a.length
 ·rw [decide_eq_true h, all2_idx a b h hf.len.1 (ref04_Same.s0 k a b) (fun x y => decide (x = y)) true false (fun j x y hx hy => by
   have hj := (List.getElem?_eq_some_iff.1 hx).1
   have mx := List.mem_of_getElem? hx
   have my := List.mem_of_getElem? hy
   have he := hf.el x mx
   unfold ref04_Same.s0
   rw [decide_eq_true (by omega : (j : Int) < ((a.length : Nat) : Int)), getI_some hx, getI_some hy]
   simp only [cond_true, Option.bind_some]
   rw [rone_F k x y (ha x mx) (hb y my) ⟨he.2.1, by omega⟩]
   simp only [Option.bind_some]
   cases decide (x = y) <;> rfl) (by
   unfold ref04_Same.s0
   rw [decide_eq_false (by omega : ¬ ((a.length : Nat) : Int) < ((a.length : Nat) : Int))]; rfl) k (by have := hf.len; omega), zip_same a b h]
  cases decide (a = b) <;> rfl
 ·rw [decide_eq_false h, eq_len h]; rfl
end Go.Proofs.Ytpdchohbmmfemaa.X
