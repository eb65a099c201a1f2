/- The machine for walks: its use. -/
import Derived.Test.YtggemgbkkhpenaaRx14
import Derived.Test.YtggemgbkkhpenaaWWords
import Derived.Test.YtggemgbkkhpenaaWMore
namespace Go.Proofs.YtggemgbkkhpenaaW.Rx
open Go Go.RowKit
set_option linter.unusedVariables false
set_option linter.unusedSimpArgs false
/-- The tree of a function's text. -/
def tree (P : Program) (A : Nat → LA) (C : Nat → Option LA) (fn : Func) (args : List AV) (out : Out) : XT :=
  X P fn.ntmps A C (out.map (·.1) ++ codeKeys (fn.body.getD .skip)) (out.map (·.1)) (drawX P fn.ntmps) (fn.body.getD .skip) 0 (startX args fn.ntmps out) (leaveX P fn (out.map (·.1)))
abbrev noA : Nat → LA := fun _ => ⟨[], []⟩
abbrev noC : Nat → Option LA := fun _ => none
section
variable {P : Program} {R : Ending → World → Prop} {w : World}
/-- A FUNCTION IS ENTERED. -/
theorem enter (hm : P.follows .mixedOrders = true) {f : FuncId} {fn : Func} {c : Code} (A : Nat → LA) (C : Nat → Option LA) (args : List AV) (out : Out) (pin : List (Nat × Nat)) (ρ : Nat → Nat)
    (hf : P.funcs[f]? = some fn) (hb : fn.body = some c) (hN : Nat.ble args.length fn.ntmps = true) (hpin : Pin pin ρ) (hpk : pin.map (·.1) = out.map (·.1))
    (hout : ∀ x ∈ out, w.heap[ρ x.1]? = some (.cells (AV.gs ρ x.2.1).toArray x.2.2 (0, 0))) (hapart : ∀ x ∈ out, ∀ y ∈ out, ρ x.1 = ρ y.1 → x.1 = y.1)
    (hwa : AV.wfs (startX args fn.ntmps out).D args = true) (hwo : out.all (fun x => AV.wfs (startX args fn.ntmps out).D x.2.1) = true)
    (h : (tree P A C fn args out).ok P pin R noJ (fun b => ∃ x ∈ out, ρ x.1 = b) w) : Calls P f (AV.gs ρ args).toArray w R := by
  refine calls_of (N := fn.ntmps) (A := A) (C := C) (KS := out.map (·.1) ++ codeKeys c) (pk := out.map (·.1)) (drawX := drawX P fn.ntmps) (fun id ops s k J a w h => draw_ok hm id ops s k J a w h) (fun base ops s k p h => drawX_loc base ops s k p h) ρ hf hb ?_ hpin ?_ ?_ hout hapart hwa hwo ?_
  · have := Nat.le_of_ble_eq_true hN; omega
  · intro q hq; rw [← hpk]; exact List.mem_map_of_mem hq
  · intro q hq
    have : q.1 ∈ out.map (·.1) := by rw [← hpk]; exact List.mem_map_of_mem hq
    obtain ⟨x, hx, he⟩ := List.mem_map.1 this
    exact ⟨x, hx, he⟩
  · unfold tree at h
    rw [hb] at h
    exact h
/-- Nothing that stood at the beginning is turned, but for blocks of S; hidden blocks are new, or of S. -/
structure Fine (S : Nat → Prop) (w0 : World) (L : Nat → Prop) (w : World) : Prop where
  os : w.os = w0.os
  tape : w.tape = w0.tape
  output : w.output = w0.output
  size : w0.heap.size ≤ w.heap.size
  keep : ∀ b, b < w0.heap.size → ¬ S b → w.heap[b]? = w0.heap[b]?
  hid : ∀ b, L b → S b ∨ w0.heap.size ≤ b
theorem Fine.ext {S L Lu : Nat → Prop} {w0 wu w : World} (h : Fine S w0 Lu wu) (e : Ext Lu wu L w) : Fine S w0 L w where
  os := e.same.1.trans h.os
  tape := e.same.2.1.trans h.tape
  output := e.same.2.2.trans h.output
  size := Nat.le_trans h.size e.size
  keep := fun b hb hS => by
    have hnl : ¬ Lu b := fun hl => by
      rcases h.hid b hl with h1 | h1
      · exact hS h1
      · omega
    rw [e.keep b (Nat.lt_of_lt_of_le hb h.size) hnl]
    exact h.keep b hb hS
  hid := fun b hb => by
    by_cases hl : Lu b
    · exact h.hid b hl
    · exact Or.inr (Nat.le_trans h.size (e.new b hb hl))
theorem Fine.below {L : Nat → Prop} {w0 w : World} (h : Fine (fun _ => False) w0 L w) : Below w0.heap.size w0 w := ⟨h.os, h.tape, h.output, h.size, fun k hk => h.keep k hk (fun h => h)⟩
theorem Fine.start (w : World) : Fine (fun _ => False) w (fun b => ∃ x ∈ ([] : Out), x.1 = b) w := ⟨rfl, rfl, rfl, Nat.le_refl _, fun _ _ _ => rfl, fun b ⟨x, hx, _⟩ => by cases hx⟩
theorem Fine.step {S L : Nat → Prop} {w0 w w2 : World} (h : Fine S w0 L w) (hb : Below w.heap.size w w2) : Fine S w0 L w2 where
  os := hb.os.trans h.os
  tape := hb.tape.trans h.tape
  output := hb.output.trans h.output
  size := Nat.le_trans h.size hb.size
  keep := fun b hlt hS => by rw [hb.block b (Nat.lt_of_lt_of_le hlt h.size)]; exact h.keep b hlt hS
  hid := h.hid
theorem keeps_below {ρ : Nat → Nat} {ex : Out} {L : Nat → Prop} {w w2 : World} (hL : ∀ b, L b → b < w.heap.size) (hb : Below w.heap.size w w2) : Keeps ρ ex L w w2 := ⟨hb.size, ⟨hb.os, hb.tape, hb.output⟩, fun b hl _ => hb.block b (hL b hl)⟩
/-- What a call that makes memory at most answers. -/
abbrev Quiet (P : Program) (f : FuncId) (args : Array Value) (w : World) (v : Value) : Prop := Calls P f args w fun e w' => e = .returned v ∧ Below w.heap.size w w'
section rules
variable {pin : List (Nat × Nat)} {J : Jt} {S L Lu : Nat → Prop} {w0 wu : World}
/-- A function that takes plain values, and turns nothing. -/
theorem enter0 (hm : P.follows .mixedOrders = true) {f : FuncId} {fn : Func} {c : Code} (A : Nat → LA) (C : Nat → Option LA) (args : List AV)
    (hf : P.funcs[f]? = some fn) (hb : fn.body = some c) (hN : Nat.ble args.length fn.ntmps = true) (hwa : AV.wfs (fun _ => false) args = true)
    (h : Fine (fun _ => False) w (fun _ => False) w → (tree P A C fn args []).ok P [] R noJ (fun _ => False) w) : Calls P f (AV.gs id args).toArray w R := by
  refine enter hm A C args [] [] id hf hb hN (fun q hq => by cases hq) rfl (fun x hx => by cases hx) (fun x hx => by cases hx) hwa rfl ?_
  have e : (fun b => ∃ x ∈ ([] : Out), id x.1 = b) = fun _ => False := by
    funext b
    simp
  rw [e]
  exact h ⟨rfl, rfl, rfl, Nat.le_refl _, fun _ _ _ => rfl, fun _ h => h.elim⟩
theorem ok_if {c : Bool} {t e : XT} (ht : c = true → t.ok P pin R J Lu wu) (he : c = false → e.ok P pin R J Lu wu) : (bif c then t else e).ok P pin R J Lu wu := by
  cases c
  · exact he rfl
  · exact ht rfl
theorem ok_need {c : Bool} {k : XT} (h : c = true) (hk : k.ok P pin R J Lu wu) : (XT.need c k).ok P pin R J Lu wu := ⟨h, hk⟩
/-- A value is answered, and nothing is turned. -/
theorem ok_done {v : Value} {r : AV} (h : Fine (fun _ => False) w0 Lu wu) (hr : r.wf (fun _ => false) = true) (hv : r.g id = v) : (XT.done r []).ok P pin (fun e w' => e = .returned v ∧ Below w0.heap.size w0 w') J Lu wu := by
  intro ρ L w _ he _ _
  refine ⟨?_, (h.ext he).below⟩
  rw [← hv, g_congr (D := fun _ => false) (fun k hk => by cases hk) r hr]
/-- A call that makes memory at most. -/
theorem ok_callq {f : FuncId} {args : List AV} {sh : Sh} {ls : List Lf} {k : Tup ls → XT} (x : Tup ls) (h : Fine S w0 Lu wu) (hw : AV.wfs (fun _ => false) args = true)
    (hc : ∀ L w, Fine S w0 L w → Quiet P f (AV.gs id args).toArray w ((sh.av (vs ls x)).g id))
    (hk : ∀ L w, Fine S w0 L w → (k x).ok P pin R J L w) : (XT.call f args [] sh ls [] k).ok P pin R J Lu wu := by
  intro ρ L w _ he _ _
  rw [gs_none args hw id]
  refine (hc L w (h.ext he)).mono ?_
  rintro e w2 ⟨rfl, hb⟩
  refine ⟨x, ?_, trivial, keeps_below he.lt hb, hk L w2 ((h.ext he).step hb)⟩
  rw [g_congr (D := fun _ => false) (ρ := id) (σ := ρ) (fun k hk => by cases hk) _ (av_wf _ sh _ (vs_wf _ _ _))]
end rules
end
end Go.Proofs.YtggemgbkkhpenaaW.Rx
