import Derived.Test.YtpdchohbmmfemaazRxSeat
namespace Go.Proofs.YtpdchohbmmfemaaW.Rx
open Go Go.RowKit
set_option linter.unusedVariables false
section
variable {α : Type} {P : Program} {Q : Ending → World → Prop} {pin : List (Nat × Nat)} {J : Jt} {L Lu : Nat → Prop} {wu w : World}
variable {R : Ending → World → Prop}
theorem ok_callp {f : FuncId} {args : List AV} {sh : Sh} {ls : List Lf} {k : Tup ls → XT} (hw : AV.wfs (fun _ => false) args = true)
  (hc : ∀ L w, Fine Lu wu L w → (∀ b, L b → b < w.heap.size) → Calls P f (AV.gs id args).toArray w fun e w2 => ∃ ps, e = .panicked ps ∧ R (.panicked ps) w2) : (XT.call f args [] sh ls [] k).ok P pin R J Lu wu := by
 intro ρ L w _ he _ _
 rw [gs_none args hw id]
 exact (hc L w he.fine he.lt).mono fun e w2 ⟨ps, h1, h2⟩ => Or.inr ⟨ps, h1, h2⟩
theorem ok_die {v : AV} (hw : v.wf (fun _ => false) = true) (hk : ∀ ρ L w, Pin pin ρ → Ext Lu wu L w → R (.panicked [{ v := v.g id, recovered := false }]) w) : (XT.die v).ok P pin R J Lu wu := by
 intro ρ L w hp he
 rw [g_congr (D := fun _ => false) (ρ := ρ) (σ := id) (fun k hk => by cases hk) v hw]
 exact hk ρ L w hp he
theorem Fine.past {S B L : Nat → Prop} {w w1 w2 : World} (h : Fine S w L w1) (hf : Fine B w1 B w2) (hB : ∀ b, B b → S b ∨ w.heap.size ≤ b) : Fine S w S w2 :=
 ⟨hf.os.trans h.os, hf.tape.trans h.tape, hf.output.trans h.output, Nat.le_trans h.size hf.size, fun b hb hS => by
  rw [hf.keep b (Nat.lt_of_lt_of_le hb h.size) (fun hh => (hB b hh).elim hS (fun h => by omega))]
  exact h.keep b hb hS, fun b hb => Or.inl hb⟩
end
end Go.Proofs.YtpdchohbmmfemaaW.Rx
