import Derived.Test.YtpdchohbmmfemaazOn3
import Derived.Test.YtpdchohbmmfemaazDc5
namespace Go.Proofs.Ytpdchohbmmfemaa.X
open Go Go.RowKit Go.Proofs.YtpdchohbmmfemaaW.Rx
set_option linter.unusedVariables false
theorem reps_raw {L : Nat → Prop} {w : World} : ∀ {l : List Fr} {cs : List Value}, Reps R22 L w l cs → ∃ ys : List FrR, cs = ys.flatMap RF.enc ∧ ys.length = l.length
 | [], cs, h => ⟨[], h, rfl⟩
 | x :: l, cs, h => by
  obtain ⟨a, b, rfl, ⟨A6, n6, c6, A7, n7, c7, rfl, _⟩, h2⟩ := h
  obtain ⟨ys, rfl, hl⟩ := reps_raw h2
  exact ⟨(x.1, x.2.1, x.2.2.1, x.2.2.2.1, x.2.2.2.2.1, x.2.2.2.2.2.1, (A6, n6, c6), (A7, n7, c7)) :: ys, by simp [List.flatMap_cons], by simp [hl]⟩
theorem raw22 {L : Nat → Prop} {w : World} {A : Option Addr} {c : Nat} {l : List Fr} (h : SlR R22 L w A c l) : ∃ ys : List FrR, SlR RF.row L w A c ys ∧ Reps R22 L w l (ys.flatMap RF.enc) ∧ ys.length = l.length := by
 obtain ⟨⟨cs, h1, h2⟩, h3, h4⟩ := h
 obtain ⟨ys, rfl, hl⟩ := reps_raw h2
 exact ⟨ys, ⟨⟨_, h1, reps_flat.2 rfl⟩, by rw [hl]; exact h3, by rw [hl]; exact h4⟩, h2, hl⟩
theorem sl_raw {base : Nat} {L : Nat → Prop} {w : World} {A : Option Addr} {c : Nat} {l : List Fr} {ys : List FrR} (ho : OwnF base L w 36 RF A c ys) (hr : Reps R22 L w l (ys.flatMap RF.enc)) (hn : ys.length = l.length) : SlR R22 L w A c l := by
 obtain ⟨⟨cs, h1, h2⟩, h3, h4⟩ := ho.sl
 rw [reps_flat] at h2
 subst h2
 rw [hn] at h3 h4
 exact ⟨⟨_, h1, hr⟩, h3, h4⟩
theorem reps_app {L : Nat → Prop} {w : World} {l m : List Fr} {ys zs : List FrR} (h : Reps R22 L w l (ys.flatMap RF.enc)) (h' : Reps R22 L w m (zs.flatMap RF.enc)) : Reps R22 L w (l ++ m) ((ys ++ zs).flatMap RF.enc) := by
 rw [List.flatMap_append]; exact Reps.append h h'
theorem SlR.newb {α : Type} {R : Row α} {L L' : Nat → Prop} {w w' : World} {A A' : Option Addr} {c : Nat} {l : List α} (h : SlR R L w A c l) (g : Fine (fun b => L b ∨ blk ((none : Option Addr), 0, 0) b) w L' w') (hid : ∀ q, L' q → L q ∨ w.heap.size ≤ q) (hbl : ∀ b, blk (A', 0, 0) b → blk ((none : Option Addr), 0, 0) b ∨ w.heap.size ≤ b) : SlR R (fun b => L' b ∨ blk (A', 0, 0) b) w' A c l :=
 SlR.later h ⟨g.os, g.tape, g.output, g.size, fun b hb hL => g.keep b hb (fun hh => hh.elim hL (fun ⟨_, h, _⟩ => by cases h)), fun b hb => hb.elim (hid b) (fun hh => (hbl b hh).elim (fun ⟨_, h, _⟩ => by cases h) Or.inr)⟩
end Go.Proofs.Ytpdchohbmmfemaa.X
