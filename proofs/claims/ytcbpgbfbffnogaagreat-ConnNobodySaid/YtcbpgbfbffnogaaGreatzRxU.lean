import Derived.Test.YtcbpgbfbffnogaaGreatzRxM
import Derived.Test.YtcbpgbfbffnogaaGreatzWWords
import Derived.Great.BuildSlice
import Derived.Laws.AppendOwn
import Derived.Laws.OwnMore
import Derived.Deep.Onto
import Derived.ArgAppend
import Derived.Lib.AppendZeros
import Derived.Laws.CopyRow
import Derived.Lib.AppendZerosOnto
namespace Go.Proofs.YtcbpgbfbffnogaaGreatW.Rx
open Go Go.RowKit
set_option linter.unusedVariables false
set_option linter.unusedSimpArgs false
def tree (P : Program) (A : Nat → LA) (C : Nat → Option LA) (fn : Func) (args : List AV) (out : Out) : XT :=
  X P ⟨fn.ntmps, 0⟩ A C (out.map (·.1) ++ codeKeys (fn.body.getD .skip)) (out.map (·.1)) (drawX P ⟨fn.ntmps, 0⟩) (fn.body.getD .skip) 0 (startX args fn.ntmps out) (leaveX P fn (out.map (·.1)))
abbrev noA : Nat → LA := fun _ => ⟨[], []⟩
abbrev noC : Nat → Option LA := fun _ => none
section
variable {P : Program} {R : Ending → World → Prop} {w : World}
theorem enter (hm : P.follows .mixedOrders = true) {f : FuncId} {fn : Func} {c : Code} (A : Nat → LA) (C : Nat → Option LA) (args : List AV) (out : Out) (pin : List (Nat × Nat)) (ρ : Nat → Nat)
    (hf : P.funcs[f]? = some fn) (hb : fn.body = some c) (hN : Nat.ble args.length fn.ntmps = true) (hpin : Pin pin ρ) (hpk : pin.map (·.1) = out.map (·.1))
    (hout : ∀ x ∈ out, w.heap[ρ x.1]? = some (.cells (AV.gs ρ x.2.1).toArray x.2.2 (0, 0))) (hapart : ∀ x ∈ out, ∀ y ∈ out, ρ x.1 = ρ y.1 → x.1 = y.1)
    (hwa : AV.wfs (startX args fn.ntmps out).D args = true) (hwo : out.all (fun x => AV.wfs (startX args fn.ntmps out).D x.2.1) = true)
    (h : (tree P A C fn args out).ok P pin R noJ (fun b => ∃ x ∈ out, ρ x.1 = b) w) : Calls P f (AV.gs ρ args).toArray w R := by
  refine calls_of (N := ⟨fn.ntmps, 0⟩) (A := A) (C := C) (KS := out.map (·.1) ++ codeKeys c) (pk := out.map (·.1)) (drawX := drawX P ⟨fn.ntmps, 0⟩) (fun id ops s k J a w h => draw_ok hm id ops s k J a w h) (fun base ops s k p h => drawX_loc base ops s k p h) ρ hf hb ?_ hpin ?_ ?_ hout hapart hwa hwo ?_
  · have := Nat.le_of_ble_eq_true hN; congr 1; omega
  · intro q hq; rw [← hpk]; exact List.mem_map_of_mem hq
  · intro q hq
    have : q.1 ∈ out.map (·.1) := by rw [← hpk]; exact List.mem_map_of_mem hq
    obtain ⟨x, hx, he⟩ := List.mem_map.1 this
    exact ⟨x, hx, he⟩
  · unfold tree at h
    rw [hb] at h
    exact h
structure Fine (S : Nat → Prop) (w0 : World) (L : Nat → Prop) (w : World) : Prop where
  os : w.os = w0.os
  tape : w.tape = w0.tape
  output : w.output = w0.output
  size : w0.heap.size ≤ w.heap.size
  keep : ∀ b, b < w0.heap.size → ¬ S b → w.heap[b]? = w0.heap[b]?
  hid : ∀ b, L b → S b ∨ w0.heap.size ≤ b
theorem Fine.ext {S L Lu : Nat → Prop} {w0 wu w : World} (h : Fine S w0 Lu wu) (e : Ext Lu wu L w) : Fine S w0 L w where
  os := e.same.1.trans h.os
  tape := e.same.2.1.trans h.tape
  output := e.same.2.2.trans h.output
  size := Nat.le_trans h.size e.size
  keep := fun b hb hS => by
    have hnl : ¬ Lu b := fun hl => by
      rcases h.hid b hl with h1 | h1
      · exact hS h1
      · omega
    rw [e.keep b (Nat.lt_of_lt_of_le hb h.size) hnl]
    exact h.keep b hb hS
  hid := fun b hb => by
    by_cases hl : Lu b
    · exact h.hid b hl
    · exact Or.inr (Nat.le_trans h.size (e.new b hb hl))
theorem Fine.below {L : Nat → Prop} {w0 w : World} (h : Fine (fun _ => False) w0 L w) : Below w0.heap.size w0 w := ⟨h.os, h.tape, h.output, h.size, fun k hk => h.keep k hk (fun h => h)⟩
theorem Fine.start (w : World) : Fine (fun _ => False) w (fun b => ∃ x ∈ ([] : Out), x.1 = b) w := ⟨rfl, rfl, rfl, Nat.le_refl _, fun _ _ _ => rfl, fun b ⟨x, hx, _⟩ => by cases hx⟩
theorem Fine.step {S L : Nat → Prop} {w0 w w2 : World} (h : Fine S w0 L w) (hb : Below w.heap.size w w2) : Fine S w0 L w2 where
  os := hb.os.trans h.os
  tape := hb.tape.trans h.tape
  output := hb.output.trans h.output
  size := Nat.le_trans h.size hb.size
  keep := fun b hlt hS => by rw [hb.block b (Nat.lt_of_lt_of_le hlt h.size)]; exact h.keep b hlt hS
  hid := h.hid
theorem keeps_below {ρ : Nat → Nat} {ex : Out} {L : Nat → Prop} {w w2 : World} (hL : ∀ b, L b → b < w.heap.size) (hb : Below w.heap.size w w2) : Keeps ρ ex L w w2 := ⟨hb.size, ⟨hb.os, hb.tape, hb.output⟩, fun b hl _ => hb.block b (hL b hl)⟩
abbrev Quiet (P : Program) (f : FuncId) (args : Array Value) (w : World) (v : Value) : Prop := Calls P f args w fun e w' => e = .returned v ∧ Below w.heap.size w w'
section rules
variable {pin : List (Nat × Nat)} {J : Jt} {S L Lu : Nat → Prop} {w0 wu : World}
theorem ok_need {c : Bool} {k : XT} (h : c = true) (hk : k.ok P pin R J Lu wu) : (XT.need c k).ok P pin R J Lu wu := ⟨h, hk⟩
theorem ok_keep {a : Option Addr} {xs : List AV} {k : XT} (h : ∀ ad, a = some ad → ∀ j v, (AV.gs id xs)[j]? = some v → wu.cell? (ad.add j) = some v) (hk : k.ok P pin R J Lu wu) : (XT.keep a xs k).ok P pin R J Lu wu := ⟨h, hk⟩
end rules
end
end Go.Proofs.YtcbpgbfbffnogaaGreatW.Rx
namespace Go.Proofs.YtcbpgbfbffnogaaGreatW.Rx
open Go Go.RowKit
set_option linter.unusedVariables false
set_option linter.unusedSimpArgs false
def Away (ρ : Nat → Nat) (b : Nat) : Out → Prop
  | [] => True
  | (k, _, _) :: r => ρ k ≠ b ∧ Away ρ b r
def Chg (ρ : Nat → Nat) (ex : Out) (w w2 : World) : Prop :=
  w.heap.size ≤ w2.heap.size ∧ (w2.os = w.os ∧ w2.tape = w.tape ∧ w2.output = w.output) ∧ ∀ b, b < w.heap.size → Away ρ b ex → w2.heap[b]? = w.heap[b]?
def Turns (P : Program) (f : FuncId) (args : List AV) (ρ : Nat → Nat) (ex : Out) (w : World) (r : AV) (cs : List (List Value)) : Prop :=
  Calls P f (AV.gs ρ args).toArray w fun e w2 => e = .returned (r.g ρ) ∧ Back ρ w2 ex cs ∧ Chg ρ ex w w2
def Stand (ρ : Nat → Nat) (w : World) : Out → Prop
  | [] => True
  | (k, c, T) :: r => w.heap[ρ k]? = some (.cells (AV.gs ρ c).toArray T (0, 0)) ∧ Stand ρ w r
theorem stand_mem {ρ : Nat → Nat} {w : World} : ∀ {ex : Out}, Stand ρ w ex → ∀ x ∈ ex, w.heap[ρ x.1]? = some (.cells (AV.gs ρ x.2.1).toArray x.2.2 (0, 0))
  | (k, c, T) :: r, h, x, hx => by
    rcases List.mem_cons.1 hx with rfl | hx
    · exact h.1
    · exact stand_mem h.2 x hx
theorem outs_hid {ρ : Nat → Nat} {L : Nat → Prop} {w : World} : ∀ {ex : Out}, Outs ρ L w ex → ∀ x ∈ ex, L (ρ x.1)
  | (k, c, T) :: r, h, x, hx => by
    rcases List.mem_cons.1 hx with rfl | hx
    · exact h.1.1
    · exact outs_hid h.2 x hx
theorem apart_inj {ρ : Nat → Nat} : ∀ {ex : Out}, Apart ρ ex → ∀ x ∈ ex, ∀ y ∈ ex, ρ x.1 = ρ y.1 → x.1 = y.1
  | (k, c, T) :: r, h, x, hx, y, hy, e => by
    rcases List.mem_cons.1 hx with rfl | hx
    · rcases List.mem_cons.1 hy with rfl | hy
      · rfl
      · exact absurd e.symm (h.1 y hy)
    · rcases List.mem_cons.1 hy with rfl | hy
      · exact absurd e (h.1 x hx)
      · exact apart_inj h.2 x hx y hy e
theorem apart_map {ρ ρ' : Nat → Nat} : ∀ {ex ex' : Out}, (ex'.map fun x => ρ' x.1) = (ex.map fun x => ρ x.1) → Apart ρ ex → Apart ρ' ex'
  | [], [], _, _ => trivial
  | (k, c, T) :: r, (k', c', T') :: r', e, h => by
    simp only [List.map_cons, List.cons.injEq] at e
    refine ⟨fun x hx => ?_, apart_map e.2 h.2⟩
    have hm : ρ' x.1 ∈ r'.map fun x => ρ' x.1 := List.mem_map_of_mem (f := fun x : Nat × List AV × TypeId => ρ' x.1) hx
    rw [e.2] at hm
    obtain ⟨y, hy, hxy⟩ := List.mem_map.1 hm
    have := h.1 y hy
    rw [e.1, ← hxy]
    exact this
def pinOf (ρ : Nat → Nat) (out : Out) : List (Nat × Nat) := out.map fun x => (x.1, ρ x.1)
def own (ρ : Nat → Nat) (out : Out) : Nat → Prop := fun b => ∃ x ∈ out, ρ x.1 = b
section rules
variable {P : Program} {R : Ending → World → Prop} {w : World} {pin : List (Nat × Nat)} {J : Jt} {S L Lu : Nat → Prop} {w0 wu : World} {ρ : Nat → Nat}
theorem enterT (hm : P.follows .mixedOrders = true) {f : FuncId} {fn : Func} {c : Code} (A : Nat → LA) (C : Nat → Option LA) (args : List AV) (out : Out) (ρ : Nat → Nat)
    (hf : P.funcs[f]? = some fn) (hb : fn.body = some c) (hN : Nat.ble args.length fn.ntmps = true) (ht : Stand ρ w out) (hap : Apart ρ out)
    (hwa : AV.wfs (startX args fn.ntmps out).D args = true) (hwo : out.all (fun x => AV.wfs (startX args fn.ntmps out).D x.2.1) = true)
    (h : Fine (own ρ out) w (own ρ out) w → (tree P A C fn args out).ok P (pinOf ρ out) R noJ (own ρ out) w) : Calls P f (AV.gs ρ args).toArray w R := by
  refine enter hm A C args out (pinOf ρ out) ρ hf hb hN ?_ ?_ (stand_mem ht) (apart_inj hap) hwa hwo (h ⟨rfl, rfl, rfl, Nat.le_refl _, fun _ _ _ => rfl, fun b hb => Or.inl hb⟩)
  · intro q hq
    unfold pinOf at hq
    obtain ⟨x, hx, rfl⟩ := List.mem_map.1 hq
    rfl
  · unfold pinOf; rw [List.map_map]; rfl
theorem pin_of {ρ' : Nat → Nat} {out : Out} (h : Pin (pinOf ρ out) ρ') : ∀ x ∈ out, ρ' x.1 = ρ x.1 := fun x hx => h (x.1, ρ x.1) (List.mem_map.2 ⟨x, hx, rfl⟩)
theorem cell_spot {w : World} {a : Addr} {v : Value} (h : w.cell? a = some v) : a.spot = none ∧ a.block < w.heap.size := by
  unfold World.cell? at h
  split at h
  · rename_i c e fr hb
    split at h
    · cases h
    · rename_i hs
      exact ⟨by simpa using hs, (Array.getElem?_eq_some_iff.1 hb).1⟩
  · cases h
theorem cell_fine {a : Addr} {v : Value} (h : Fine S w0 Lu wu) (hS : ¬ S a.block) (hc : w0.cell? a = some v) : wu.cell? a = some v := by
  have hb := (cell_spot hc).2
  unfold World.cell? at hc ⊢
  rw [h.keep _ hb hS]
  exact hc
theorem ok_loop {ls : List Lf} {x : Tup ls} {lvl : Nat} {body : Tup ls → XT} (I : Nat → Tup ls → (Nat → Prop) → World → Prop) (n : Nat) (h0 : I n x Lu wu)
    (hr : ∀ n y L w, I n y L w → (body y).ok P pin R (J.set lvl fun ls' z L' w' => ∃ h : ls' = ls, ∃ m, m < n ∧ I m (h ▸ z) L' w') L w) : (XT.loop ls x lvl body).ok P pin R J Lu wu := ⟨I, ⟨n, h0⟩, hr⟩
theorem ok_cut {ls : List Lf} {lvl : Nat} {body : XT} {k : Tup ls → XT} (I : Tup ls → (Nat → Prop) → World → Prop)
    (hb : body.ok P pin R (J.set lvl fun ls' z L w => ∃ h : ls' = ls, I (h ▸ z) L w) Lu wu) (hk : ∀ y L w, I y L w → (k y).ok P pin R J L w) : (XT.cut ls lvl body k).ok P pin R J Lu wu := ⟨I, hb, hk⟩
end rules
end Go.Proofs.YtcbpgbfbffnogaaGreatW.Rx
namespace Go.Proofs.YtcbpgbfbffnogaaGreatW.Rx
open Go Go.RowKit
set_option linter.unusedVariables false
set_option linter.unusedSimpArgs false
section
variable {S L Lu L' : Nat → Prop} {w0 wu w w' : World}
theorem Fine.refl (L : Nat → Prop) (w : World) : Fine L w L w := ⟨rfl, rfl, rfl, Nat.le_refl _, fun _ _ _ => rfl, fun _ h => Or.inl h⟩
theorem Fine.trans (h : Fine S w0 Lu wu) (g : Fine Lu wu L w) : Fine S w0 L w where
  os := g.os.trans h.os
  tape := g.tape.trans h.tape
  output := g.output.trans h.output
  size := Nat.le_trans h.size g.size
  keep := fun b hb hS => by
    have hnl : ¬ Lu b := fun hl => by
      rcases h.hid b hl with h1 | h1
      · exact hS h1
      · omega
    rw [g.keep b (Nat.lt_of_lt_of_le hb h.size) hnl]
    exact h.keep b hb hS
  hid := fun b hb => by
    rcases g.hid b hb with h1 | h1
    · exact h.hid b h1
    · exact Or.inr (Nat.le_trans h.size h1)
theorem Ext.fine (e : Ext Lu wu L w) : Fine Lu wu L w := (Fine.refl Lu wu).ext e
theorem Fine.cell {a : Addr} {v : Value} (g : Fine L w L' w') (hL : ¬ L a.block) (hc : w.cell? a = some v) : w'.cell? a = some v := cell_fine g hL hc
theorem Fine.vis {b : Nat} (g : Fine L w L' w') (hb : b < w.heap.size) (hL : ¬ L b) : ¬ L' b := fun h => by
  rcases g.hid b h with h1 | h1
  · exact hL h1
  · omega
theorem block_add (ad : Addr) (i : Nat) : (ad.add i).block = ad.block := by
  unfold Addr.add; split <;> rfl
def Here (L : Nat → Prop) (w : World) (A : Option Addr) (cells : List Value) : Prop := ∀ (i : Nat) (u : Value), cells[i]? = some u → ∃ ad, A = some ad ∧ w.cell? (ad.add i) = some u ∧ ¬ L ad.block
theorem Here.later {A : Option Addr} {cells : List Value} (h : Here L w A cells) (g : Fine L w L' w') : Here L' w' A cells := by
  intro i u hu
  obtain ⟨ad, e, hc, hL⟩ := h i u hu
  have hL2 : ¬ L (ad.add i).block := by rw [block_add]; exact hL
  exact ⟨ad, e, g.cell hL2 hc, by have := g.vis (cell_spot hc).2 hL2; rwa [block_add] at this⟩
def Own (base : Nat) (L : Nat → Prop) (w : World) (e : TypeId) (size : Nat) (v : Option Addr × Nat × Nat) (xs : List Value) : Prop :=
  w.ownsRow base e size (Lf.V .sl v) v.2.1 xs ∧ ∀ ad, v.1 = some ad → ad.block < w.heap.size ∧ ¬ L ad.block
theorem Own.none (base : Nat) (L : Nat → Prop) (w : World) (e : TypeId) (size : Nat) : Own base L w e size (Option.none, 0, 0) [] := ⟨World.ownsRow_nil _ _ _ _, fun ad h => by cases h⟩
theorem Own.later {base e size : Nat} {v : Option Addr × Nat × Nat} {xs : List Value} (h : Own base L w e size v xs) (g : Fine L w L' w') : Own base L' w' e size v xs := by
  refine ⟨⟨h.1.1, ?_⟩, fun ad ha => ?_⟩
  · rcases h.1.2 with h1 | ⟨gb, cap, cur, hv, h1, h2, h3⟩
    · exact Or.inl h1
    · refine Or.inr ⟨gb, cap, cur, hv, h1, ?_, h3⟩
      obtain ⟨A, len, c⟩ := v
      simp only [Lf.V, Value.slice.injEq] at hv
      obtain ⟨rfl, -, -⟩ := hv
      obtain ⟨q1, q2⟩ := h.2 _ rfl
      rw [g.keep gb q1 q2]; exact h2
  · obtain ⟨q1, q2⟩ := h.2 ad ha
    exact ⟨Nat.lt_of_lt_of_le q1 g.size, g.vis q1 q2⟩
theorem Own.here {base e size : Nat} {v : Option Addr × Nat × Nat} {xs : List Value} (h : Own base L w e size v xs) : Here L w v.1 xs := by
  intro i u hu
  obtain ⟨A, len, c⟩ := v
  obtain ⟨⟨hl, h1 | ⟨gb, cap, cur, hv, h1, h2, h3⟩⟩, hb⟩ := h
  · dsimp only at h1 hl
    rw [h1.2, Nat.zero_mul] at hl
    rw [List.eq_nil_of_length_eq_zero hl] at hu
    simp at hu
  · simp only [Lf.V, Value.slice.injEq] at hv
    obtain ⟨rfl, -, rfl⟩ := hv
    refine ⟨_, rfl, ?_, (hb _ rfl).2⟩
    have hi : i < len * size := by
      have := (List.getElem?_eq_some_iff.1 hu).1
      dsimp only at hl; omega
    have hrow : w.ownsRow base e size (.slice (some ⟨gb, 0, Option.none⟩) len c) len xs := ⟨hl, Or.inr ⟨gb, c, cur, rfl, h1, h2, h3⟩⟩
    have hz : (⟨gb, 0, Option.none⟩ : Addr).add i = ⟨gb, i, Option.none⟩ := by
      unfold Addr.add
      split
      · rename_i h0; subst h0; rfl
      · simp
    rw [hz, hrow.cellAt i hi]; exact hu
end
section rules
variable {P : Program} {R : Ending → World → Prop} {pin : List (Nat × Nat)} {J : Jt} {S L Lu : Nat → Prop} {w0 wu w : World}
theorem ok_semm {s : Sem Value} {ls : List Lf} {sh : Sh} {k : Tup ls → XT}
    (hc : ∀ L w, Fine Lu wu L w → (∀ b, L b → b < w.heap.size) → ∃ (x : Tup ls) (w2 : World), s.run P w = .ok ((sh.av (vs ls x)).g id) w2 ∧ Keeps id [] L w w2 ∧ (k x).ok P pin R J L w2) : (XT.sem s ls sh k).ok P pin R J Lu wu := by
  intro L w he
  exact hc L w he.fine he.lt
end rules
end Go.Proofs.YtcbpgbfbffnogaaGreatW.Rx
namespace Go.Proofs.YtcbpgbfbffnogaaGreatW.Rx
open Go Go.RowKit
set_option linter.unusedVariables false
set_option linter.unusedSimpArgs false
def blk (v : Option Addr × Nat × Nat) (b : Nat) : Prop := ∃ ad, v.1 = some ad ∧ ad.block = b
section
variable {P : Program} {S L L' : Nat → Prop} {w0 w w2 : World}
theorem Fine.own {B : Nat → Prop} (h : Fine S w0 L w) (g : Fine (fun b => L b ∨ B b) w L' w2) (hB : ∀ b, B b → S b ∨ w0.heap.size ≤ b) (hL : ∀ b, L' b → L b ∨ w.heap.size ≤ b) : Fine S w0 L' w2 where
  os := g.os.trans h.os
  tape := g.tape.trans h.tape
  output := g.output.trans h.output
  size := Nat.le_trans h.size g.size
  keep := fun b hb hS => by
    rw [g.keep b (Nat.lt_of_lt_of_le hb h.size) ?_]
    · exact h.keep b hb hS
    · rintro (hl | hl)
      · rcases h.hid b hl with h1 | h1
        · exact hS h1
        · omega
      · rcases hB b hl with h1 | h1
        · exact hS h1
        · omega
  hid := fun b hb => by
    rcases hL b hb with h1 | h1
    · exact h.hid b h1
    · exact Or.inr (Nat.le_trans h.size h1)
theorem Here.more {A : Option Addr} {cells : List Value} {B : Nat → Prop} (h : Here L w A cells) (hB : ∀ ad, A = some ad → ¬ B ad.block) : Here (fun b => L b ∨ B b) w A cells := by
  intro i u hu
  obtain ⟨ad, e, hc, hL⟩ := h i u hu
  exact ⟨ad, e, hc, fun hx => hx.elim hL (hB ad e)⟩
theorem Own.more {base e size : Nat} {v : Option Addr × Nat × Nat} {xs : List Value} {B : Nat → Prop} (h : Own base L w e size v xs) (hB : ∀ ad, v.1 = some ad → ¬ B ad.block) : Own base (fun b => L b ∨ B b) w e size v xs :=
  ⟨h.1, fun ad ha => ⟨(h.2 ad ha).1, fun hx => hx.elim (h.2 ad ha).2 (hB ad ha)⟩⟩
theorem Own.base {base e size : Nat} {v : Option Addr × Nat × Nat} {xs : List Value} (h : Own base L w e size v xs) {b : Nat} (hb : blk v b) : base ≤ b := by
  obtain ⟨ad, ha, rfl⟩ := hb
  obtain ⟨A, len, c⟩ := v
  dsimp only at ha
  subst ha
  rcases h.1.2 with h1 | ⟨g, cap, cur, hv, h1, _⟩
  · simp [Lf.V] at h1
  · simp only [Lf.V, Value.slice.injEq, Option.some.injEq] at hv
    rw [hv.1]; exact h1
theorem Own.len {base e size : Nat} {v : Option Addr × Nat × Nat} {xs : List Value} (h : Own base L w e size v xs) : xs.length = v.2.1 * size := h.1.1
theorem own_app {base t ty e size bytes : Nat} {i : TypeInfo} {z : Value} (ht : P.underlying t = some (.slice e)) (hi : P.info? e = some i) (hz : i.zero = some z)
    (hsize : i.size = size) (hby : i.bytes = bytes) (hzs : z.cells.size = size) (hsz : 0 < size)
    {v : Option Addr × Nat × Nat} {xs : List Value} (h : Own base L w e size v xs) (hlt : ∀ b, L b → b < w.heap.size)
    (a : Addr) (m c : Nat) (news : List Value) (hl : news.length = m * size) (hnews : ∀ (j : Nat) (u : Value), news[j]? = some u → w.cell? (a.add j) = some u) (h1 : ∀ u ∈ news, u.oneCell' = true)
    (h63 : v.2.1 + m ≤ maxLen) (hbytes : (v.2.1 + m) * bytes ≤ 140737488355328) (hbase : base ≤ w.heap.size) :
    ∃ (v' : Option Addr × Nat × Nat) (w2 : World), (Builtin.append_ #[t, t] ty #[Lf.V .sl v, .slice (some a) m c]).run P w = .ok (Lf.V .sl v') w2 ∧ Own base L w2 e size v' (xs ++ news) ∧ v'.2.1 = v.2.1 + m ∧ Keeps id [] L w w2 ∧ Fine (fun b => L b ∨ blk v b) w L w2 ∧ (∀ b, blk v' b → blk v b ∨ w.heap.size ≤ b) := by
  have fin : ∀ (v1 : Value) (w2 : World) (row : Option Nat), w2.ownsRow base e size v1 (v.2.1 + m) (xs ++ news) → w.grownBy w2 row → (∀ b, row = some b → blk v b) → (∀ g n cap, v1 = .slice (some ⟨g, 0, none⟩) n cap → blk v g ∨ w.heap.size ≤ g) → (Builtin.append_ #[t, t] ty #[Lf.V .sl v, .slice (some a) m c]).run P w = .ok v1 w2 →
      ∃ (v' : Option Addr × Nat × Nat) (w2 : World), (Builtin.append_ #[t, t] ty #[Lf.V .sl v, .slice (some a) m c]).run P w = .ok (Lf.V .sl v') w2 ∧ Own base L w2 e size v' (xs ++ news) ∧ v'.2.1 = v.2.1 + m ∧ Keeps id [] L w w2 ∧ Fine (fun b => L b ∨ blk v b) w L w2 ∧ (∀ b, blk v' b → blk v b ∨ w.heap.size ≤ b) := by
    intro v1 w2 row ho hg hrow hwhere hrun
    have hnr : ∀ b, ¬ (L b ∨ blk v b) → some b ≠ row := fun b hb e => hb (Or.inr (hrow b e.symm))
    have hkl : ∀ b, L b → some b ≠ row := fun b hb e => by
      obtain ⟨ad, ha, hab⟩ := hrow b e.symm
      exact (h.2 ad ha).2 (hab ▸ hb)
    have hK : Keeps id [] L w w2 := ⟨hg.size, ⟨hg.os, hg.tape, hg.output⟩, fun b hb _ => hg.block b (hlt b hb) (hkl b hb)⟩
    have hF : Fine (fun b => L b ∨ blk v b) w L w2 := ⟨hg.os, hg.tape, hg.output, hg.size, fun b hb hS => hg.block b hb (hnr b hS), fun b hb => Or.inl (Or.inl hb)⟩
    rcases ho.2 with ⟨hv, hn⟩ | ⟨g, cap, cur, hv, hbg, hblk, hrest⟩
    · subst hv
      refine ⟨(none, 0, 0), w2, hrun, ⟨⟨by rw [ho.1, hn], Or.inl ⟨rfl, rfl⟩⟩, fun ad h => by cases h⟩, by simpa using hn.symm, hK, hF, fun b ⟨ad, h, _⟩ => by cases h⟩
    · subst hv
      refine ⟨(some ⟨g, 0, none⟩, v.2.1 + m, cap), w2, hrun, ⟨⟨ho.1, Or.inr ⟨g, cap, cur, rfl, hbg, hblk, hrest⟩⟩, fun ad h => ?_⟩, rfl, hK, hF, fun b ⟨ad, h, hb⟩ => ?_⟩
      · cases h
        refine ⟨(Array.getElem?_eq_some_iff.1 hblk).1, fun hLg => ?_⟩
        rcases hwhere g _ _ rfl with ⟨ad, ha, hab⟩ | h2
        · exact (h.2 ad ha).2 (by rw [hab]; exact hLg)
        · have := hlt _ hLg
          dsimp only at this; omega
      · cases h
        rw [← hb]
        exact hwhere g _ _ rfl
  obtain ⟨A, len, cp⟩ := v
  dsimp only at h63 hbytes fin
  rcases h.1.2 with ⟨hv, hn⟩ | ⟨g, cap, cur, hv, hbg, hblk, hnc, hcm, hcs, htk⟩
  · simp only [Lf.V, Value.slice.injEq] at hv
    obtain ⟨rfl, rfl, rfl⟩ := hv
    have hx : xs = [] := List.eq_nil_of_length_eq_zero (by have := h.1.1; simpa using this)
    subst hx
    obtain ⟨v1, w2, hr, ho, hg, hif⟩ := run_append_own (P := P) w w.heap.size t ty e i z size bytes ht hi hz hsize hby hzs hsz (.slice none 0 0) 0 [] (World.ownsRow_nil _ _ _ _) a m c news hl hnews h1 h63 hbytes (Nat.le_refl _)
    refine fin v1 w2 _ (ho.mono hbase) hg (fun b hb => by cases hb) (fun g n cap e => ?_) hr
    subst e
    rcases ho.2 with ⟨hv, _⟩ | ⟨g', cap', cur', hv, hb', _⟩
    · cases hv
    · simp only [Value.slice.injEq, Option.some.injEq, Addr.mk.injEq] at hv
      rw [hv.1.1]; exact Or.inr hb'
  · simp only [Lf.V, Value.slice.injEq] at hv
    obtain ⟨rfl, -, rfl⟩ := hv
    by_cases hroom : len + m ≤ cp
    · obtain ⟨v1, w2, hr, ho, hg, hif⟩ := run_append_own (P := P) w base t ty e i z size bytes ht hi hz hsize hby hzs hsz (.slice (some ⟨g, 0, none⟩) len cp) len xs h.1 a m c news hl hnews h1 h63 hbytes hbase
      have hr2 := run_append_room (P := P) w t ty e i ht hi g len cp cur hblk a m c news (by rw [hsize]; exact hl) hnews h1 hroom (by
        rw [hsize, hl, hcs, ← Nat.add_mul]; exact Nat.mul_le_mul_right _ hroom)
      rw [hr] at hr2
      injection hr2 with e1 e2
      refine fin v1 w2 _ ho hg (fun b hb => ?_) (fun g' n cap' e => ?_) hr
      · simp only [Value.ownBlock, Option.some.injEq] at hb
        exact ⟨_, rfl, hb⟩
      · rw [e1] at e
        simp only [Value.slice.injEq, Option.some.injEq, Addr.mk.injEq] at e
        exact Or.inl ⟨_, rfl, e.1.1⟩
    · have hrow : w.ownsRow base e size (.slice (some ⟨g, 0, none⟩) len cp) len xs := h.1
      obtain ⟨v1, w2, hr, ho, hg⟩ := run_append_arg_grows (P := P) w t ty e i z size bytes ht hi hz hsize hby hzs hsz ⟨g, 0, none⟩ len cp xs h.1.1 (fun j u hu => by
        have hj : j < len * size := by
          have := (List.getElem?_eq_some_iff.1 hu).1
          have h2 := h.1.1
          dsimp only at h2; omega
        have hz : (⟨g, 0, Option.none⟩ : Addr).add j = ⟨g, j, Option.none⟩ := by
          unfold Addr.add
          split
          · rename_i h0; subst h0; rfl
          · simp
        rw [hz, hrow.cellAt j hj]; exact hu) a m c news hl hnews (by omega) h63 hbytes
      refine fin v1 w2 _ (ho.mono hbase) hg (fun b hb => by cases hb) (fun g n cap e => ?_) hr
      subst e
      rcases ho.2 with ⟨hv, _⟩ | ⟨g', cap', cur', hv, hb', _⟩
      · cases hv
      · simp only [Value.slice.injEq, Option.some.injEq, Addr.mk.injEq] at hv
        rw [hv.1.1]; exact Or.inr hb'
end
end Go.Proofs.YtcbpgbfbffnogaaGreatW.Rx
namespace Go.Proofs.YtcbpgbfbffnogaaGreatW.Rx
open Go Go.RowKit
set_option linter.unusedVariables false
set_option linter.unusedSimpArgs false
structure Row (α : Type) where
  n : Nat
  pos : 0 < n
  rep : (Nat → Prop) → World → α → List Value → Prop
  len : ∀ {L w x cs}, rep L w x cs → cs.length = n
  later : ∀ {L w L' w' x cs}, rep L w x cs → Fine L w L' w' → rep L' w' x cs
  mono : ∀ {L L' : Nat → Prop} {w x cs}, rep L w x cs → (∀ b, L' b → L b) → rep L' w x cs
  one : ∀ {L w x cs}, rep L w x cs → ∀ u ∈ cs, u.oneCell' = true
structure FRow (α : Type) where
  n : Nat
  pos : 0 < n
  enc : α → List Value
  len : ∀ x, (enc x).length = n
  one : ∀ x, ∀ u ∈ enc x, u.oneCell' = true
@[reducible] def FRow.row {α : Type} (R : FRow α) : Row α := ⟨R.n, R.pos, fun _ _ x cs => cs = R.enc x, fun h => by subst h; exact R.len _, fun h _ => h, fun h _ => h, fun h => by subst h; exact R.one _⟩
@[reducible] def iRow (k : IntKind) : FRow Int := ⟨1, by decide, fun x => [.int k x], fun _ => rfl, fun x u h => by simp at h; subst h; rfl⟩
@[reducible] def bRow : FRow Bool := ⟨1, by decide, fun x => [.bool x], fun _ => rfl, fun x u h => by simp at h; subst h; rfl⟩
def Reps {α : Type} (R : Row α) (L : Nat → Prop) (w : World) : List α → List Value → Prop
  | [], cs => cs = []
  | x :: r, cs => ∃ a b, cs = a ++ b ∧ R.rep L w x a ∧ Reps R L w r b
section
variable {α : Type} {R : Row α} {L L' : Nat → Prop} {w w' : World}
theorem Reps.length : ∀ {l : List α} {cs : List Value}, Reps R L w l cs → cs.length = l.length * R.n
  | [], cs, h => by cases h; simp
  | x :: r, cs, ⟨a, b, e, h1, h2⟩ => by rw [e, List.length_append, R.len h1, Reps.length h2, List.length_cons, Nat.add_mul]; omega
theorem Reps.later : ∀ {l : List α} {cs : List Value}, Reps R L w l cs → Fine L w L' w' → Reps R L' w' l cs
  | [], cs, h, _ => h
  | x :: r, cs, ⟨a, b, e, h1, h2⟩, g => ⟨a, b, e, R.later h1 g, Reps.later h2 g⟩
theorem Reps.mono : ∀ {l : List α} {cs : List Value}, Reps R L w l cs → (∀ b, L' b → L b) → Reps R L' w l cs
  | [], cs, h, _ => h
  | x :: r, cs, ⟨a, b, e, h1, h2⟩, g => ⟨a, b, e, R.mono h1 g, Reps.mono h2 g⟩
theorem Reps.one : ∀ {l : List α} {cs : List Value}, Reps R L w l cs → ∀ u ∈ cs, u.oneCell' = true
  | [], cs, h, u, hu => by cases h; simp at hu
  | x :: r, cs, ⟨a, b, e, h1, h2⟩, u, hu => by
    subst e
    rcases List.mem_append.1 hu with h | h
    · exact R.one h1 u h
    · exact Reps.one h2 u h
theorem Reps.get : ∀ {l : List α} {cs : List Value} {j : Nat} {x : α}, Reps R L w l cs → l[j]? = some x → ∃ a, R.rep L w x a ∧ ∀ (i : Nat) (u : Value), a[i]? = some u → cs[j * R.n + i]? = some u
  | [], cs, j, x, h, hx => by simp at hx
  | y :: r, cs, 0, x, ⟨a, b, e, h1, h2⟩, hx => by
    simp only [List.getElem?_cons_zero, Option.some.injEq] at hx
    subst hx
    refine ⟨a, h1, fun i u hu => ?_⟩
    rw [e, Nat.zero_mul, Nat.zero_add, List.getElem?_append_left (List.getElem?_eq_some_iff.1 hu).1]
    exact hu
  | y :: r, cs, j + 1, x, ⟨a, b, e, h1, h2⟩, hx => by
    simp only [List.getElem?_cons_succ] at hx
    obtain ⟨c, hc, hi⟩ := Reps.get h2 hx
    refine ⟨c, hc, fun i u hu => ?_⟩
    rw [e, List.getElem?_append_right (by rw [R.len h1, Nat.add_mul]; omega), R.len h1, show (j + 1) * R.n + i - R.n = j * R.n + i by rw [Nat.add_mul]; omega]
    exact hi i u hu
theorem Reps.append : ∀ {l m : List α} {a b : List Value}, Reps R L w l a → Reps R L w m b → Reps R L w (l ++ m) (a ++ b)
  | [], m, a, b, h, h' => by cases h; exact h'
  | x :: r, m, a, b, ⟨c, d, e, h1, h2⟩, h' => ⟨c, d ++ b, by rw [e, List.append_assoc], h1, Reps.append h2 h'⟩
theorem Reps.drop : ∀ {l : List α} {cs : List Value} (k : Nat), Reps R L w l cs → Reps R L w (l.drop k) (cs.drop (k * R.n))
  | l, cs, 0, h => by simpa using h
  | [], cs, k + 1, h => by cases h; simp [Reps]
  | x :: r, cs, k + 1, ⟨a, b, e, h1, h2⟩ => by
    rw [List.drop_succ_cons, e, show (k + 1) * R.n = a.length + k * R.n by rw [R.len h1, Nat.add_mul]; omega, List.drop_append]
    have e1 : List.drop (a.length + k * R.n) a = [] := List.drop_of_length_le (by omega)
    rw [e1, List.nil_append, show a.length + k * R.n - a.length = k * R.n by omega]
    exact Reps.drop k h2
theorem Reps.take : ∀ {l : List α} {cs : List Value} (k : Nat), Reps R L w l cs → Reps R L w (l.take k) (cs.take (k * R.n))
  | l, cs, 0, h => by simp [Reps]
  | [], cs, k + 1, h => by cases h; simp [Reps]
  | x :: r, cs, k + 1, ⟨a, b, e, h1, h2⟩ => by
    rw [List.take_succ_cons, e, show (k + 1) * R.n = a.length + k * R.n by rw [R.len h1, Nat.add_mul]; omega, List.take_append]
    refine ⟨a, b.take (k * R.n), by rw [List.take_of_length_le (by omega), show a.length + k * R.n - a.length = k * R.n by omega], h1, Reps.take k h2⟩
theorem reps_flat {R : FRow α} : ∀ {l : List α} {cs : List Value}, Reps R.row L w l cs ↔ cs = l.flatMap R.enc
  | [], cs => by simp [Reps]
  | x :: r, cs => by
    simp only [Reps, List.flatMap_cons]
    constructor
    · rintro ⟨a, b, e, rfl, h2⟩
      rw [e, reps_flat.1 h2]
    · intro h
      exact ⟨R.enc x, r.flatMap R.enc, h, rfl, reps_flat.2 rfl⟩
theorem flatMap_len {R : FRow α} (l : List α) : (l.flatMap R.enc).length = l.length * R.n := Reps.length (R := R.row) (L := fun _ => False) (w := default) (reps_flat.2 rfl)
def SlR (R : Row α) (L : Nat → Prop) (w : World) (A : Option Addr) (c : Nat) (l : List α) : Prop := (∃ cs, Here L w A cs ∧ Reps R L w l cs) ∧ l.length ≤ c ∧ l.length ≤ 9223372036854775807
theorem SlR.later {A : Option Addr} {c : Nat} {l : List α} (h : SlR R L w A c l) (g : Fine L w L' w') : SlR R L' w' A c l := by
  obtain ⟨⟨cs, h1, h2⟩, h3⟩ := h
  exact ⟨⟨cs, h1.later g, h2.later g⟩, h3⟩
theorem Here.mono {A : Option Addr} {cells : List Value} (h : Here L w A cells) (g : ∀ b, L' b → L b) : Here L' w A cells := fun i u hu => by
  obtain ⟨ad, e, hc, hl⟩ := h i u hu
  exact ⟨ad, e, hc, fun h => hl (g _ h)⟩
theorem SlR.mono {A : Option Addr} {c : Nat} {l : List α} (h : SlR R L w A c l) (g : ∀ b, L' b → L b) : SlR R L' w A c l := by
  obtain ⟨⟨cs, h1, h2⟩, h3⟩ := h
  exact ⟨⟨cs, h1.mono g, h2.mono g⟩, h3⟩
theorem SlR.nil {c : Nat} : SlR R L w none c ([] : List α) := ⟨⟨[], fun i u hu => by simp at hu, rfl⟩, by simp, by simp⟩
theorem SlR.some {A : Option Addr} {c : Nat} {l : List α} (h : SlR R L w A c l) (hl : 0 < l.length) : A.isSome = true := by
  obtain ⟨⟨cs, h1, h2⟩, h3⟩ := h
  have e := h2.length
  have hp := R.pos
  have h0 : 0 < cs.length := by rw [e]; exact Nat.mul_pos hl hp
  obtain ⟨ad, e, _⟩ := h1 0 _ (List.getElem?_eq_getElem h0)
  rw [e]; rfl
def getI (l : List α) (i : Int) : Option α := if 0 ≤ i then l[i.toNat]? else none
theorem SlR.sub {A : Option Addr} {c : Nat} {l : List α} (h : SlR R L w A c l) (lo hi : Int) (h0 : 0 ≤ lo) (h1 : lo ≤ hi) (h2 : hi ≤ l.length) : SlR R L w (if (c : Int) = lo then A else A.map (fun x => x.add (lo.toNat * R.n))) (c - lo.toNat) ((l.drop lo.toNat).take (hi.toNat - lo.toNat)) := by
  obtain ⟨⟨cs, h3, h4⟩, h5, h6⟩ := h
  refine ⟨⟨(cs.drop (lo.toNat * R.n)).take ((hi.toNat - lo.toNat) * R.n), ?_, (h4.drop _).take _⟩, by rw [List.length_take, List.length_drop]; omega, by rw [List.length_take, List.length_drop]; omega⟩
  intro i u hu
  rw [List.getElem?_take] at hu
  split at hu
  case isFalse => cases hu
  rename_i hlt
  rw [List.getElem?_drop] at hu
  obtain ⟨ad, e, hc, hl⟩ := h3 _ _ hu
  subst e
  have hsz : lo.toNat * R.n + i < cs.length := (List.getElem?_eq_some_iff.1 hu).1
  rw [h4.length] at hsz
  have hlo : lo.toNat < l.length := by
    rcases Nat.lt_or_ge lo.toNat l.length with h | h
    · exact h
    · have := Nat.mul_le_mul_right R.n h; omega
  rw [if_neg (by omega)]
  obtain ⟨hs, _⟩ := cell_spot hc
  refine ⟨ad.add (lo.toNat * R.n), rfl, ?_, by rw [block_add]; exact hl⟩
  have : (ad.add (lo.toNat * R.n)).add i = ad.add (lo.toNat * R.n + i) := by
    generalize lo.toNat * R.n = o at hs ⊢
    cases ad with
    | mk b off sp =>
      unfold Addr.add at hs ⊢
      by_cases hm : o = 0
      · subst hm; simp
      · by_cases hi : i = 0
        · subst hi; simp [hm]
        · simp only [hm, hi, if_false]
          rw [if_neg (by omega)]
          simp <;> omega
  rw [this]; exact hc
abbrev OwnF (base : Nat) (L : Nat → Prop) (w : World) (e : TypeId) (R : FRow α) (A : Option Addr) (c : Nat) (l : List α) : Prop := Own base L w e R.n (A, l.length, c) (l.flatMap R.enc)
theorem OwnF.nil (base : Nat) (L : Nat → Prop) (w : World) (e : TypeId) (R : FRow α) : OwnF base L w e R none 0 ([] : List α) := Own.none _ _ _ _ _
theorem OwnF.later {base : Nat} {e : TypeId} {R : FRow α} {A : Option Addr} {c : Nat} {l : List α} (h : OwnF base L w e R A c l) (g : Fine L w L' w') : OwnF base L' w' e R A c l := Own.later h g
theorem OwnF.sl {base : Nat} {e : TypeId} {R : FRow α} {A : Option Addr} {c : Nat} {l : List α} (h : OwnF base L w e R A c l) : SlR R.row L w A c l := by
  refine ⟨⟨_, h.here, reps_flat.2 rfl⟩, ?_⟩
  rcases h.1.2 with ⟨h1, h2⟩ | ⟨g, cap, cur, hv, h1, h2, h3, h4, _⟩
  · dsimp only at h2; omega
  · simp only [Lf.V, Value.slice.injEq] at hv
    obtain ⟨-, -, rfl⟩ := hv
    simp only [maxLen] at h4
    dsimp only at h3
    omega
theorem OwnF.call {base n : Nat} {e : TypeId} {R : FRow α} {A : Option Addr} {c : Nat} {l : List α} (h : OwnF n (fun b => b < n) w e R A c l) (hb : base ≤ n) (hL : ∀ b, L b → b < n) : OwnF base L w e R A c l :=
  ⟨h.1.mono hb, fun ad ha => ⟨(h.2 ad ha).1, fun hl => (h.2 ad ha).2 (hL _ hl)⟩⟩
theorem OwnF.lt {base : Nat} {e : TypeId} {R : FRow α} {A : Option Addr} {c : Nat} {l : List α} (h : OwnF base L w e R A c l) (b : Nat) (hb : blk (A, 0, 0) b) : b < w.heap.size := by
  obtain ⟨ad, ha, rfl⟩ := hb
  exact (h.2 ad ha).1
theorem OwnF.ret {base : Nat} {e : TypeId} {R : FRow α} {A : Option Addr} {c : Nat} {l : List α} (h : OwnF base L w e R A c l) : OwnF base (fun b => b < base) w e R A c l :=
  ⟨h.1, fun ad ha => ⟨(h.2 ad ha).1, fun hl => by
    have := Own.base (b := ad.block) h ⟨ad, ha, rfl⟩
    omega⟩⟩
def Dj (A B : Option Addr) : Prop := ∀ b, blk (A, 0, 0) b → ¬ blk (B, 0, 0) b
theorem Dj.symm {A B : Option Addr} (h : Dj A B) : Dj B A := fun b h1 h2 => h b h2 h1
theorem Dj.nil {A : Option Addr} : Dj A none := fun b _ ⟨ad, h, _⟩ => by cases h
theorem Dj.new {A B : Option Addr} {n : Nat} (h : ∀ b, blk (A, 0, 0) b → n ≤ b) (h' : ∀ b, blk (B, 0, 0) b → b < n) : Dj A B := fun b h1 h2 => by have := h b h1; have := h' b h2; omega
theorem OwnF.other {base : Nat} {e : TypeId} {R : FRow α} {A B : Option Addr} {c : Nat} {l : List α} (h : OwnF base L w e R A c l) (hd : Dj A B) (g : Fine (fun b => L b ∨ blk (B, 0, 0) b) w L' w') : OwnF base L' w' e R A c l :=
  Own.later (Own.more h fun ad ha hb => hd ad.block ⟨ad, ha, rfl⟩ hb) g
def Off (A : Option Addr) (cs : Prop) (B : Option Addr) : Prop := True
theorem SlR.other {R : FRow α} {A B : Option Addr} {c : Nat} {l : List α} (h : SlR R.row L w A c l) (hd : Dj A B) (g : Fine (fun b => L b ∨ blk (B, 0, 0) b) w L' w') : SlR R.row L' w' A c l := by
  obtain ⟨⟨cs, h1, h2⟩, h3⟩ := h
  refine ⟨⟨cs, (h1.more (B := blk (B, 0, 0)) fun ad ha hb => hd ad.block ⟨ad, ha, rfl⟩ hb).later g, reps_flat.2 (reps_flat.1 h2)⟩, h3⟩
end
def iter {σ ρ : Type} (f : σ → Option (Sum σ ρ)) : Nat → σ → Option ρ
  | 0, _ => none
  | k + 1, s => (f s).bind fun o => match o with
    | .inl s' => iter f k s'
    | .inr r => some r
def cutb {σ ρ : Type} (b : Option (Sum σ ρ)) (K : σ → Option ρ) : Option ρ := b.bind fun o => match o with
  | .inl s => K s
  | .inr r => some r
section rules
variable {α : Type} {P : Program} {Q : Ending → World → Prop} {pin : List (Nat × Nat)} {J : Jt} {S L Lu : Nat → Prop} {w0 wu w : World}
def Elem (P : Program) (t : TypeId) (e : TypeId) (n bytes : Nat) : Prop := P.underlying t = some (.slice e) ∧ ∃ i z, P.info? e = some i ∧ i.zero = some z ∧ i.size = n ∧ i.bytes = bytes ∧ z.cells.size = n
theorem ok_lit {R : FRow α} {t e base bytes m : Nat} {parts : Array (Nat × Value)} {xs : List α} {k : Tup [Lf.sl] → XT} (cells : Array Value) (hE : Elem P t e R.n bytes) (hm : xs.length = m) (hsmall : ¬ m * R.n > 2 ^ 24) (hpos : 0 < m)
    (hfill : ∃ i z, P.info? e = some i ∧ i.zero = some z ∧ Instr.fill (fun j => some (j * i.size, i.size)) ((Array.range (m * i.size)).map (z.cells[· % z.cells.size]!)) parts.toList = some cells) (hcells : cells.toList = xs.flatMap R.enc) (hb : base ≤ wu.heap.size)
    (hk : ∀ A c L w, OwnF base L w e R A c xs → Fine Lu wu L w → (∀ b, blk (A, 0, 0) b → wu.heap.size ≤ b) → (k ((A, xs.length, c), ())).ok P pin Q J L w) : (XT.sem (Instr.buildSlice t m parts) [Lf.sl] Sh.one k).ok P pin Q J Lu wu := by
  obtain ⟨hu, i, z, hi, hz, hn, hby, hzs⟩ := hE
  obtain ⟨i', z', hi', hz', hfill⟩ := hfill
  rw [hi] at hi'
  cases hi'
  rw [hz] at hz'
  cases hz'
  have hnz : ¬ m * i.size = 0 := by rw [hn]; exact Nat.ne_of_gt (Nat.mul_pos hpos R.pos)
  refine ok_semm (fun L w hF hlt => ⟨((some ⟨w.heap.size, 0, none⟩, m, m), ()), w.alloc (.cells cells e), run_buildSlice w t e m parts cells i z hu hi hz (by rw [hn]; exact hsmall) hnz hfill, keeps_below hlt ((Below.refl w.heap.size w).alloc (Nat.le_refl _) _), ?_⟩)
  have hG : Fine Lu wu L (w.alloc (.cells cells e)) := hF.step ((Below.refl w.heap.size w).alloc (Nat.le_refl _) _)
  have hcl : cells.size = m * R.n := by rw [← Array.length_toList, hcells, flatMap_len, hm]
  have hml : m ≤ maxLen := by
    have h1 : m * 1 ≤ m * R.n := Nat.mul_le_mul_left m R.pos
    simp only [maxLen]; omega
  have := hk (some ⟨w.heap.size, 0, none⟩) m L (w.alloc (.cells cells e)) ⟨⟨by rw [flatMap_len], Or.inr ⟨w.heap.size, m, cells, by rw [hm]; rfl, Nat.le_trans hb hF.size, Array.getElem?_push_size, by dsimp only; omega, hml, hcl, ?_⟩⟩, ?_⟩ hG ?_
  · rw [hm] at this; exact this
  · rw [hcells, List.take_of_length_le (by rw [flatMap_len]; exact Nat.le_refl _)]
  · intro ad ha
    cases ha
    exact ⟨by simp, fun hl => Nat.lt_irrefl _ (hlt _ hl)⟩
  · rintro b ⟨ad, ha, rfl⟩
    cases ha
    exact hF.size
theorem ok_app {R : FRow α} {t ty e base bytes : Nat} {A A2 : Option Addr} {n1 n2 c c2 : Nat} {xs ys : List α} {k : Tup [Lf.sl] → XT} (hn1 : n1 = xs.length) (hn2 : n2 = ys.length) (hE : Elem P t e R.n bytes) (ho : OwnF base Lu wu e R A c xs) (hs : SlR R.row Lu wu A2 c2 ys) (hby1 : 0 < bytes) (hbytes : (xs.length + ys.length) * bytes ≤ 140737488355328) (hb : base ≤ wu.heap.size)
    (hk : ∀ A' c' L w, OwnF base L w e R A' c' (xs ++ ys) → Fine (fun b => Lu b ∨ blk (A, 0, 0) b) wu L w → (∀ q, L q → Lu q ∨ wu.heap.size ≤ q) → (∀ b, blk (A', 0, 0) b → blk (A, 0, 0) b ∨ wu.heap.size ≤ b) → (k ((A', (xs ++ ys).length, c'), ())).ok P pin Q J L w) :
    (XT.sem (Builtin.append_ #[t, t] ty #[.slice A n1 c, .slice A2 n2 c2]) [Lf.sl] Sh.one k).ok P pin Q J Lu wu := by
  subst hn1 hn2
  have h63 : xs.length + ys.length ≤ 9223372036854775807 := by
    have : (xs.length + ys.length) * 1 ≤ (xs.length + ys.length) * bytes := Nat.mul_le_mul_left _ hby1
    omega
  obtain ⟨hu, i, z, hi, hz, hn, hby, hzs⟩ := hE
  refine ok_semm (fun L w hF hlt => ?_)
  have ho := ho.later hF
  have hs := hs.later hF
  have fin : ∀ (A' : Option Addr) (n' c' : Nat) (w2 : World), n' = (xs ++ ys).length → (Builtin.append_ #[t, t] ty #[.slice A xs.length c, .slice A2 ys.length c2]).run P w = .ok (Lf.V .sl (A', n', c')) w2 → OwnF base L w2 e R A' c' (xs ++ ys) → Keeps id [] L w w2 → Fine (fun b => L b ∨ blk (A, 0, 0) b) w L w2 → (∀ b, blk (A', 0, 0) b → blk (A, 0, 0) b ∨ w.heap.size ≤ b) → ∃ (x : Tup [Lf.sl]) (w2 : World), (Builtin.append_ #[t, t] ty #[.slice A xs.length c, .slice A2 ys.length c2]).run P w = .ok ((Sh.one.av (vs [Lf.sl] x)).g id) w2 ∧ Keeps id [] L w w2 ∧ (k x).ok P pin Q J L w2 := by
    rintro A' n' c' w2 rfl hr hO hK hF2 hbl
    refine ⟨((A', _, c'), ()), w2, hr, hK, hk A' c' L w2 hO ?_ hF.hid (fun b hb => ?_)⟩
    · exact ⟨hF2.os.trans hF.os, hF2.tape.trans hF.tape, hF2.output.trans hF.output, Nat.le_trans hF.size hF2.size, fun q hq hS => by
        rw [hF2.keep q (Nat.lt_of_lt_of_le hq hF.size) (fun h => by
          rcases h with h | h
          · rcases hF.hid q h with h1 | h1
            · exact hS (Or.inl h1)
            · omega
          · exact hS (Or.inr h))]
        exact hF.keep q hq (fun h => hS (Or.inl h)), fun q hq => by
        rcases hF.hid q hq with h1 | h1
        · exact Or.inl (Or.inl h1)
        · exact Or.inr h1⟩
    · rcases hbl b hb with h1 | h1
      · exact Or.inl h1
      · exact Or.inr (Nat.le_trans hF.size h1)
  obtain ⟨⟨cs, h1, h2⟩, h3, h4⟩ := hs
  have h2 := reps_flat.1 h2
  subst h2
  cases A2 with
  | none =>
    have hy : ys = [] := by
      cases ys with
      | nil => rfl
      | cons y ys =>
        exfalso
        have hl : 0 < ((y :: ys).flatMap R.enc).length := by rw [flatMap_len]; exact Nat.mul_pos (by simp) R.pos
        obtain ⟨ad, e, _⟩ := h1 0 _ (List.getElem?_eq_getElem hl)
        cases e
    subst hy
    refine fin A xs.length c w (by simp) ?_ (by simpa using ho) ⟨Nat.le_refl _, ⟨rfl, rfl, rfl⟩, fun _ _ _ => rfl⟩ ⟨rfl, rfl, rfl, Nat.le_refl _, fun _ _ _ => rfl, fun b hb => Or.inl (Or.inl hb)⟩ (fun b hb => Or.inl hb)
    have hnc : xs.length ≤ c := ho.sl.2.1
    cases A <;> simp [Builtin.append_, run_underlying hu, sizeOf, typeInfo, hi, Builtin.lenOf, Builtin.firstCells, storeCells, hnc, Lf.V]
  | some a =>
    obtain ⟨v', w3, r1, r2, r3, r4, r5, r6⟩ := own_app (P := P) (ty := ty) (z := z) (size := R.n) (bytes := bytes) (i := i) (t := t) (e := e) hu hi hz hn hby hzs R.pos (v := (A, xs.length, c)) (xs := xs.flatMap R.enc) ho hlt a ys.length c2 (ys.flatMap R.enc) (flatMap_len ys) (fun j u hu => by
        obtain ⟨ad, e, hc, _⟩ := h1 j u hu
        cases e; exact hc) (Reps.one (R := R.row) (L := fun _ => False) (w := w) (reps_flat.2 rfl)) (by simp only [maxLen]; exact h63) hbytes (Nat.le_trans hb hF.size)
    obtain ⟨A', n', c'⟩ := v'
    refine fin A' n' c' w3 (by rw [List.length_append]; exact r3) r1 ?_ r4 r5 r6
    have hn' : n' = (xs ++ ys).length := by rw [List.length_append]; exact r3
    subst hn'
    unfold OwnF
    rw [List.flatMap_append]
    exact r2
end rules
end Go.Proofs.YtcbpgbfbffnogaaGreatW.Rx
namespace Go.Proofs.YtcbpgbfbffnogaaGreatW.Rx
open Go Go.RowKit
set_option linter.unusedVariables false
set_option linter.unusedSimpArgs false
theorem own_lt {ρ : Nat → Nat} {w : World} {ex : Out} (hs : Stand ρ w ex) : ∀ b, own ρ ex b → b < w.heap.size := by
  rintro b ⟨x, hx, rfl⟩
  exact (Array.getElem?_eq_some_iff.1 (stand_mem hs x hx)).1
section rules
variable {P : Program} {Q : Ending → World → Prop} {pin : List (Nat × Nat)} {J : Jt} {S L Lu : Nat → Prop} {w0 wu w : World} {ρ : Nat → Nat}
end rules
section rules2
variable {α : Type} {P : Program} {Q : Ending → World → Prop} {pin : List (Nat × Nat)} {J : Jt} {L Lu : Nat → Prop} {wu w : World}
end rules2
section
variable {α : Type} {R : Row α} {L L' : Nat → Prop} {w w' : World}
end
end Go.Proofs.YtcbpgbfbffnogaaGreatW.Rx
namespace Go.Proofs.YtcbpgbfbffnogaaGreatW.Rx
open Go Go.RowKit
set_option linter.unusedVariables false
set_option linter.unusedSimpArgs false
section rules
variable {α : Type} {P : Program} {Q : Ending → World → Prop} {pin : List (Nat × Nat)} {J : Jt} {L Lu : Nat → Prop} {wu w : World}
end rules
end Go.Proofs.YtcbpgbfbffnogaaGreatW.Rx
namespace Go.Proofs.YtcbpgbfbffnogaaGreatW.Rx
open Go Go.RowKit
set_option linter.unusedVariables false
set_option linter.unusedSimpArgs false
def ObR {α : Type} (R : Row α) (L : Nat → Prop) (w : World) (a : Option Addr) (ob : Option α) : Prop := a.isSome = ob.isSome ∧ SlR R L w a 1 ob.toList
section
variable {α : Type} {R : Row α} {L L' : Nat → Prop} {w w' : World} {a : Option Addr} {ob : Option α} {x : α}
theorem ObR.none (h : ObR R L w a ob) : a.isNone = ob.isNone := by
  have := h.1
  cases a <;> cases ob <;> simp_all
theorem ObR.need (h : ObR R L w a ob) (hr : ob = some x) : a.isSome = true := by rw [h.1, hr]; rfl
theorem ObR.sl (h : ObR R L w a ob) (hr : ob = some x) : SlR R L w a 1 [x] := by have := h.2; rw [hr] at this; exact this
theorem ObR.later (h : ObR R L w a ob) (g : Fine L w L' w') : ObR R L' w' a ob := ⟨h.1, SlR.later h.2 g⟩
theorem ObR.mono (h : ObR R L w a ob) (g : ∀ b, L' b → L b) : ObR R L' w a ob := ⟨h.1, SlR.mono h.2 g⟩
theorem ObR.nil : ObR R L w Option.none Option.none := ⟨rfl, SlR.nil⟩
variable {P : Program} {pin : List (Nat × Nat)} {Q : Ending → World → Prop} {J : Jt} {S Lu : Nat → Prop} {w0 wu : World}
end
end Go.Proofs.YtcbpgbfbffnogaaGreatW.Rx
namespace Go.Proofs.YtcbpgbfbffnogaaGreatW.Rx
open Go Go.RowKit
set_option linter.unusedVariables false
set_option linter.unusedSimpArgs false
theorem run_copy_rowN {P : Program} (w : World) (dT sT ty elem : TypeId) (sz g o dLen dCap : Nat) (a : Addr) (sLen sCap : Nat) (cur : Array Value) (t : TypeId) (cs : List Value)
    (hu : P.underlying dT = some (.slice elem)) (hs : (P.info? elem).map (·.size) = some sz)
    (hg : w.heap[g]? = some (.cells cur t (0, 0))) (hn : cs.length = Nat.min sLen dLen * sz)
    (hsrc : ∀ j v, cs[j]? = some v → w.cell? (a.add j) = some v) (hfit : o + cs.length ≤ cur.size) (h1 : ∀ v ∈ cs, v.oneCell' = true) :
    (Builtin.copy_ #[dT, sT] ty #[.slice (some ⟨g, o, none⟩) dLen dCap, .slice (some a) sLen sCap]).run P w =
      .ok (.int .i64 (Nat.min sLen dLen : Nat)) (w.setRow g (cur.toList.take o ++ cs ++ cur.toList.drop (o + cs.length)).toArray) := by
  have hl := run_loadCells_list (P := P) w a cs hsrc
  have hst := run_storeCells_at P g o t cs 0 cur w hg (by simpa using hfit) h1
  cases hq : P.info? elem with
  | none => simp [hq] at hs
  | some i =>
    have hi : i.size = sz := by simpa [hq] using hs
    simp [Builtin.copy_, run_underlying hu, Builtin.lenOf, Builtin.firstCells, sizeOf, typeInfo, hq, hi, ← hn, hl, hst, goInt]
def cop {α : Type} (lo : Nat) (xs ys : List α) : List α := xs.take lo ++ ys.take (xs.length - lo) ++ xs.drop (lo + min ys.length (xs.length - lo))
theorem flat_take {α : Type} {R : FRow α} (k : Nat) (xs : List α) : (xs.take k).flatMap R.enc = (xs.flatMap R.enc).take (k * R.n) :=
  (reps_flat.1 (Reps.take (L := fun _ => False) (w := default) k (reps_flat (R := R) (l := xs) |>.2 rfl))).symm
theorem flat_drop {α : Type} {R : FRow α} (k : Nat) (xs : List α) : (xs.drop k).flatMap R.enc = (xs.flatMap R.enc).drop (k * R.n) :=
  (reps_flat.1 (Reps.drop (L := fun _ => False) (w := default) k (reps_flat (R := R) (l := xs) |>.2 rfl))).symm
section
variable {α : Type} {P : Program} {Q : Ending → World → Prop} {pin : List (Nat × Nat)} {J : Jt} {L Lu : Nat → Prop} {wu w : World}
end
end Go.Proofs.YtcbpgbfbffnogaaGreatW.Rx
namespace Go.Proofs.YtcbpgbfbffnogaaGreatW.Rx
open Go Go.RowKit
set_option linter.unusedVariables false
set_option linter.unusedSimpArgs false
def OwnO {α : Type} (base : Nat) (L : Nat → Prop) (w : World) (e : TypeId) (R : FRow α) (A : Option Addr) (c : Nat) (xs : List α) : Prop :=
  (A = none ∧ c = 0 ∧ xs = []) ∨ ∃ (g o : Nat) (cur : Array Value), A = some ⟨g, o, none⟩ ∧ base ≤ g ∧ (g < w.heap.size ∧ ¬ L g) ∧ w.heap[g]? = some (.cells cur e (0, 0)) ∧ xs.length ≤ c ∧ c ≤ maxLen ∧ o + c * R.n ≤ cur.size ∧ (cur.toList.drop o).take (xs.length * R.n) = xs.flatMap R.enc
section
variable {α : Type} {R : FRow α} {base e : Nat} {A : Option Addr} {c : Nat} {xs : List α} {L L' : Nat → Prop} {w w' : World}
theorem OwnO.nil : OwnO base L w e R none 0 ([] : List α) := Or.inl ⟨rfl, rfl, rfl⟩
theorem OwnF.off (h : OwnF base L w e R A c xs) : OwnO base L w e R A c xs := by
  obtain ⟨⟨hl, hrow⟩, hvis⟩ := h
  dsimp only at hl hrow hvis
  rcases hrow with ⟨hv, hn⟩ | ⟨g, cap, cur, hvv, hbg, hblk, hnc, hcm, hcs, htk⟩
  · simp only [Lf.V, Value.slice.injEq] at hv
    obtain ⟨rfl, h2, rfl⟩ := hv
    exact Or.inl ⟨rfl, rfl, List.eq_nil_of_length_eq_zero h2⟩
  · simp only [Lf.V, Value.slice.injEq] at hvv
    obtain ⟨rfl, -, rfl⟩ := hvv
    exact Or.inr ⟨g, 0, cur, rfl, hbg, hvis _ rfl, hblk, hnc, hcm, by rw [hcs]; omega, by rw [List.drop_zero]; exact htk⟩
theorem OwnO.later (h : OwnO base L w e R A c xs) (g : Fine L w L' w') : OwnO base L' w' e R A c xs := by
  rcases h with h | ⟨b, o, cur, h1, h2, ⟨h3, h4⟩, h5, h6⟩
  · exact Or.inl h
  · exact Or.inr ⟨b, o, cur, h1, h2, ⟨Nat.lt_of_lt_of_le h3 g.size, g.vis h3 h4⟩, by rw [g.keep b h3 h4]; exact h5, h6⟩
theorem OwnO.other {B : Option Addr} (h : OwnO base L w e R A c xs) (hd : Dj A B) (g : Fine (fun b => L b ∨ blk (B, 0, 0) b) w L' w') : OwnO base L' w' e R A c xs := by
  refine OwnO.later (L := fun b => L b ∨ blk (B, 0, 0) b) ?_ g
  rcases h with h | ⟨b, o, cur, h1, h2, ⟨h3, h4⟩, h5, h6⟩
  · exact Or.inl h
  · refine Or.inr ⟨b, o, cur, h1, h2, ⟨h3, fun hb => ?_⟩, h5, h6⟩
    rcases hb with hb | hb
    · exact h4 hb
    · exact hd b ⟨_, h1, rfl⟩ hb
theorem OwnO.lt (h : OwnO base L w e R A c xs) (b : Nat) (hb : blk (A, 0, 0) b) : b < w.heap.size ∧ ¬ L b ∧ base ≤ b := by
  obtain ⟨ad, ha, rfl⟩ := hb
  rcases h with ⟨rfl, _⟩ | ⟨g, o, cur, rfl, h2, h3, _⟩
  · cases ha
  · cases ha; exact ⟨h3.1, h3.2, h2⟩
theorem OwnO.sl (h : OwnO base L w e R A c xs) : SlR R.row L w A c xs := by
  rcases h with ⟨rfl, rfl, rfl⟩ | ⟨g, o, cur, rfl, h2, ⟨h3, h4⟩, h5, h6, h7, h8, h9⟩
  · exact SlR.nil
  · refine ⟨⟨xs.flatMap R.enc, fun i u hu => ?_, reps_flat.2 rfl⟩, h6, by simp only [maxLen] at h7; omega⟩
    refine ⟨_, rfl, ?_, h4⟩
    rw [← h9, List.getElem?_take] at hu
    split at hu
    case isFalse => cases hu
    rw [List.getElem?_drop] at hu
    have ea : (⟨g, o, none⟩ : Addr).add i = ⟨g, o + i, none⟩ := by
      unfold Addr.add
      split
      · rename_i h; rw [h]; rfl
      · rfl
    rw [ea]
    unfold World.cell?
    dsimp only
    rw [h5]
    rw [Array.getElem?_toList] at hu
    simpa using hu
theorem OwnO.ret (h : OwnO base L w e R A c xs) : OwnO base (fun b => b < base) w e R A c xs := by
  rcases h with h | ⟨b, o, cur, h1, h2, ⟨h3, h4⟩, h5, h6⟩
  · exact Or.inl h
  · exact Or.inr ⟨b, o, cur, h1, h2, ⟨h3, by omega⟩, h5, h6⟩
theorem OwnO.cut (h : OwnO base L w e R A c xs) (lo hi : Nat) (h1 : lo ≤ hi) (h2 : hi ≤ xs.length) : OwnO base L w e R (if c = lo then A else A.map (fun x => x.add (lo * R.n))) (c - lo) ((xs.drop lo).take (hi - lo)) := by
  rcases h with ⟨rfl, rfl, rfl⟩ | ⟨g, o, cur, rfl, k2, k3, k5, k6, k7, k8, k9⟩
  · obtain rfl : hi = 0 := by simpa using h2
    obtain rfl : lo = 0 := by omega
    exact Or.inl ⟨by simp, rfl, by simp⟩
  · have hlen : ((xs.drop lo).take (hi - lo)).length = hi - lo := by rw [List.length_take, List.length_drop]; omega
    have hadd : (⟨g, o, none⟩ : Addr).add (lo * R.n) = ⟨g, o + lo * R.n, none⟩ := by
      unfold Addr.add
      split
      · rename_i h; rw [h]; rfl
      · rfl
    have hn : (hi - lo) * R.n + lo * R.n ≤ xs.length * R.n := by rw [← Nat.add_mul]; exact Nat.mul_le_mul_right _ (by omega)
    have hc : (c - lo) * R.n + lo * R.n = c * R.n := by rw [← Nat.add_mul, Nat.sub_add_cancel (by omega)]
    by_cases hcl : c = lo
    · rw [if_pos hcl]
      have e0 : hi - lo = 0 := by omega
      rw [e0]
      refine Or.inr ⟨g, o, cur, rfl, k2, k3, k5, by simp, by omega, by rw [hcl, Nat.sub_self]; omega, by simp⟩
    · rw [if_neg hcl]
      refine Or.inr ⟨g, o + lo * R.n, cur, by simp [hadd], k2, k3, k5, by rw [hlen]; omega, by omega, by omega, ?_⟩
      rw [hlen, flat_take, flat_drop, ← k9, List.drop_take, List.take_take, Nat.min_eq_left (by omega), List.drop_drop]
end
section
variable {α : Type} {P : Program} {Q : Ending → World → Prop} {pin : List (Nat × Nat)} {J : Jt} {L Lu : Nat → Prop} {wu w : World}
end
end Go.Proofs.YtcbpgbfbffnogaaGreatW.Rx
namespace Go.Proofs.YtcbpgbfbffnogaaGreatW.Rx
open Go Go.RowKit
set_option linter.unusedVariables false
set_option linter.unusedSimpArgs false
theorem splice {β : Type} (cur vs : List β) (o p N : Nat) (h1 : p + vs.length ≤ N) (h2 : o + N ≤ cur.length) :
    ((cur.take (o + p) ++ vs ++ cur.drop (o + p + vs.length)).drop o).take N = ((cur.drop o).take N).take p ++ vs ++ ((cur.drop o).take N).drop (p + vs.length) := by
  have l1 : (cur.take (o + p)).length = o + p := by rw [List.length_take]; omega
  have d1 : (cur.take (o + p)).drop o = (cur.drop o).take p := by rw [List.drop_take, Nat.add_sub_cancel_left]
  have l2 : ((cur.drop o).take p).length = p := by rw [List.length_take, List.length_drop]; omega
  rw [List.append_assoc, List.drop_append_of_le_length (by rw [l1]; omega), d1, List.take_append, l2, List.take_append, List.take_of_length_le (l := (cur.drop o).take p) (by rw [l2]; omega), List.take_of_length_le (l := vs) (by omega)]
  rw [List.take_take, Nat.min_eq_left (by omega), List.drop_take, List.drop_drop, List.append_assoc]
  congr 3
  · omega
  · congr 1; omega
theorem flat_put {α : Type} {R : FRow α} {xs : List α} {i off : Nat} {x x' : α} {vs : List Value} (hx : xs[i]? = some x) (ho : off + vs.length ≤ R.n) (he : R.enc x' = (R.enc x).take off ++ vs ++ (R.enc x).drop (off + vs.length)) :
    (xs.set i x').flatMap R.enc = (xs.flatMap R.enc).take (i * R.n + off) ++ vs ++ (xs.flatMap R.enc).drop (i * R.n + off + vs.length) := by
  obtain ⟨hi, hxi⟩ := List.getElem?_eq_some_iff.1 hx
  have hs : xs = xs.take i ++ x :: xs.drop (i + 1) := by rw [← hxi, ← List.drop_eq_getElem_cons hi, List.take_append_drop]
  have hP : ((xs.take i).flatMap R.enc).length = i * R.n := by rw [flatMap_len, List.length_take, Nat.min_eq_left (by omega)]
  have hX := R.len x
  have hset : xs.set i x' = xs.take i ++ x' :: xs.drop (i + 1) := List.set_eq_take_append_cons_drop.trans (if_pos hi)
  have hf : xs.flatMap R.enc = (xs.take i).flatMap R.enc ++ (R.enc x ++ (xs.drop (i + 1)).flatMap R.enc) := by
    conv => lhs; rw [hs]
    rw [List.flatMap_append, List.flatMap_cons]
  rw [hset, List.flatMap_append, List.flatMap_cons, he, hf]
  generalize (xs.take i).flatMap R.enc = Pp at hP ⊢
  generalize (xs.drop (i + 1)).flatMap R.enc = Qq
  rw [← hP, Nat.add_assoc, List.take_append, List.take_of_length_le (l := Pp) (by omega), List.drop_append, List.drop_of_length_le (l := Pp) (by omega), Nat.add_sub_cancel_left, Nat.add_sub_cancel_left, List.take_append_of_le_length (by rw [hX]; omega), List.drop_append_of_le_length (by rw [hX]; omega)]
  simp only [List.append_assoc, List.nil_append]
section
variable {α : Type} {P : Program} {Q : Ending → World → Prop} {pin : List (Nat × Nat)} {J : Jt} {L Lu : Nat → Prop} {wu w : World}
theorem ok_put {R : FRow α} {base e : Nat} {A : Option Addr} {c : Nat} {xs : List α} {x x' : α} {vals : List AV} {vs : List Value} {k : XT} (i off : Nat) (ho : OwnO base Lu wu e R A c xs) (hx : xs[i]? = some x) (hoff : off + vs.length ≤ R.n) (he : R.enc x' = (R.enc x).take off ++ vs ++ (R.enc x).drop (off + vs.length)) (hv : ∀ ρ, AV.gs ρ vals = vs)
    (hk : ∀ L w, OwnO base L w e R A c (xs.set i x') → Fine (fun b => Lu b ∨ blk (A, 0, 0) b) wu L w → (∀ q, L q → Lu q ∨ wu.heap.size ≤ q) → k.ok P pin Q J L w) : (XT.sto ((A.map (fun a => a.add (i * R.n))).map (fun a => a.add off)) vals [] k).ok P pin Q J Lu wu := by
  intro ρ L w _ hE _
  have ho := ho.later hE.fine
  have hi := (List.getElem?_eq_some_iff.1 hx).1
  rcases ho with ⟨rfl, rfl, rfl⟩ | ⟨g, o, cur, rfl, k2, k3, k5, k6, k7, k8, k9⟩
  · simp at hi
  have hle : i * R.n + R.n ≤ xs.length * R.n := by
    rw [← Nat.succ_mul]; exact Nat.mul_le_mul_right _ hi
  have hcl : xs.length * R.n ≤ c * R.n := Nat.mul_le_mul_right _ k6
  have hvl : vals.length = vs.length := by rw [← gs_len ρ vals, hv ρ]
  have hadd : ((⟨g, o, none⟩ : Addr).add (i * R.n)).add off = ⟨g, o + (i * R.n + off), none⟩ := by
    unfold Addr.add
    by_cases h1 : i * R.n = 0
    · rw [if_pos h1, h1]
      by_cases h2 : off = 0
      · rw [if_pos h2, h2]; rfl
      · rw [if_neg h2]; simp
    · rw [if_neg h1]
      by_cases h2 : off = 0
      · rw [if_pos h2, h2]; simp
      · rw [if_neg h2]; simp; omega
  refine ⟨⟨g, o + (i * R.n + off), none⟩, by simp [hadd], rfl, k3.2, fun j hj => ?_, ?_⟩
  · constructor
    · unfold World.cell?
      dsimp only
      rw [k5]
      have : o + (i * R.n + off) + j < cur.size := by omega
      simp [this]
    · unfold World.frozen?
      dsimp only
      rw [k5]
      simp
  · rw [hv ρ]
    obtain ⟨cur', q1, q2, q3⟩ := Go.Proofs.YtcbpgbfbffnogaaGreatW.PrintWords.setCells_row vs (o + (i * R.n + off)) w cur k5 (by omega)
    obtain ⟨s1, s2, s3, s4⟩ := Go.Proofs.YtcbpgbfbffnogaaGreatW.PrintWords.setCells_same g vs (o + (i * R.n + off)) w
    refine hk L _ (Or.inr ⟨g, o, cur', rfl, k2, by rw [s4]; exact k3, q1, by rw [List.length_set]; exact k6, k7, by rw [q2]; exact k8, ?_⟩) ?_ hE.fine.hid
    · rw [q3, List.length_set, splice cur.toList vs o (i * R.n + off) (xs.length * R.n) (by omega) (by rw [Array.length_toList]; exact Nat.le_trans (Nat.add_le_add_left hcl o) k8), k9, flat_put hx hoff he]
    · refine ⟨s1.trans hE.fine.os, s2.trans hE.fine.tape, s3.trans hE.fine.output, by rw [s4]; exact hE.fine.size, fun b hb hS => ?_, fun b hb => ?_⟩
      · rw [Go.Proofs.YtcbpgbfbffnogaaGreatW.PrintWords.setCells_far vs (o + (i * R.n + off)) b (fun h => hS (Or.inr ⟨_, rfl, h.symm⟩))]
        exact hE.fine.keep b hb (fun h => hS (Or.inl h))
      · rcases hE.fine.hid b hb with h | h
        · exact Or.inl (Or.inl h)
        · exact Or.inr h
end
end Go.Proofs.YtcbpgbfbffnogaaGreatW.Rx
namespace Go.Proofs.YtcbpgbfbffnogaaGreatW.Rx
open Go Go.RowKit
set_option linter.unusedVariables false
set_option linter.unusedSimpArgs false
section
variable {α : Type} {P : Program} {Q : Ending → World → Prop} {pin : List (Nat × Nat)} {J : Jt} {L Lu : Nat → Prop} {wu w : World}
end
end Go.Proofs.YtcbpgbfbffnogaaGreatW.Rx
namespace Go.Proofs.YtcbpgbfbffnogaaGreatW.Rx
open Go Go.RowKit
set_option linter.unusedVariables false
set_option linter.unusedSimpArgs false
section
variable {α : Type} {P : Program} {Q : Ending → World → Prop} {pin : List (Nat × Nat)} {J : Jt} {L Lu : Nat → Prop} {wu w : World}
theorem ok_appO {R : FRow α} {t ty e base bytes : Nat} {A A2 : Option Addr} {n1 n2 c c2 : Nat} {xs ys : List α} {k : Tup [Lf.sl] → XT} (hn1 : n1 = xs.length) (hn2 : n2 = ys.length) (hE : Elem P t e R.n bytes) (ho : OwnO base Lu wu e R A c xs) (hA : A.isSome = true) (hs : SlR R.row Lu wu A2 c2 ys) (hy : 0 < ys.length) (h63 : xs.length + ys.length ≤ maxLen) (hbytes : (xs.length + ys.length) * bytes ≤ 140737488355328) (hb : base ≤ wu.heap.size)
    (hk : ∀ A' c' L w, OwnO base L w e R A' c' (xs ++ ys) → Fine (fun b => Lu b ∨ blk (A, 0, 0) b) wu L w → (∀ q, L q → Lu q ∨ wu.heap.size ≤ q) → (∀ b, blk (A', 0, 0) b → blk (A, 0, 0) b ∨ wu.heap.size ≤ b) → (k ((A', (xs ++ ys).length, c'), ())).ok P pin Q J L w) :
    (XT.sem (Builtin.append_ #[t, t] ty #[.slice A n1 c, .slice A2 n2 c2]) [Lf.sl] Sh.one k).ok P pin Q J Lu wu := by
  subst hn1 hn2
  obtain ⟨hu, i, z, hi, hz, hn, hby, hzs⟩ := hE
  intro L w he
  have ho := ho.later he.fine
  have hs := hs.later he.fine
  have hsl := ho.sl
  obtain ⟨a, rfl⟩ := Option.isSome_iff_exists.1 (hs.some hy)
  obtain ⟨⟨cs, h1, h2⟩, h3, h4⟩ := hs
  obtain rfl := reps_flat.1 h2
  have hone := Reps.one (R := R.row) (L := fun _ => False) (w := w) (reps_flat (l := ys).2 rfl)
  have hnews : ∀ j u, (ys.flatMap R.enc)[j]? = some u → w.cell? (a.add j) = some u := fun j u hj => by
    obtain ⟨ad, e2, hc, _⟩ := h1 j u hj
    cases e2; exact hc
  have hl : (ys.flatMap R.enc).length = ys.length * R.n := flatMap_len ys
  rcases ho with ⟨rfl, _⟩ | ⟨g, o, cur, rfl, k2, k3, k5, k6, k7, k8, k9⟩
  · cases hA
  have fine : ∀ w2 : World, Fine (fun b => L b ∨ blk (some (⟨g, o, none⟩ : Addr), 0, 0) b) w L w2 → Fine (fun b => Lu b ∨ blk (some (⟨g, o, none⟩ : Addr), 0, 0) b) wu L w2 := fun w2 hF2 => ⟨hF2.os.trans he.fine.os, hF2.tape.trans he.fine.tape, hF2.output.trans he.fine.output, Nat.le_trans he.fine.size hF2.size, fun q hq hS => by
      rw [hF2.keep q (Nat.lt_of_lt_of_le hq he.fine.size) (fun h => by
        rcases h with h | h
        · rcases he.fine.hid q h with h1 | h1
          · exact hS (Or.inl h1)
          · omega
        · exact hS (Or.inr h))]
      exact he.fine.keep q hq (fun h => hS (Or.inl h)), fun q hq => by
      rcases he.fine.hid q hq with h1 | h1
      · exact Or.inl (Or.inl h1)
      · exact Or.inr h1⟩
  by_cases hroom : xs.length + ys.length ≤ c
  · have hcap : (xs.length + ys.length) * R.n ≤ c * R.n := Nat.mul_le_mul_right _ hroom
    rw [Nat.add_mul] at hcap
    have hrun := run_append_room_cells (P := P) w t ty e i hu hi g o xs.length c a ys.length c2 (ys.flatMap R.enc) (by rw [hl, hn]) hnews hone hroom
      (fun j hj => by
        rw [hl] at hj
        unfold World.cell?
        dsimp only
        rw [k5]
        have : o + xs.length * i.size + j < cur.size := by rw [hn]; omega
        simp [this])
      (fun j hj => by simp [World.frozen?, k5])
    rw [hn] at hrun
    obtain ⟨cur', q1, q2, q3⟩ := Go.Proofs.YtcbpgbfbffnogaaGreatW.PrintWords.setCells_row (ys.flatMap R.enc) (o + xs.length * R.n) w cur k5 (by rw [hl]; omega)
    obtain ⟨s1, s2, s3, s4⟩ := Go.Proofs.YtcbpgbfbffnogaaGreatW.PrintWords.setCells_same g (ys.flatMap R.enc) (o + xs.length * R.n) w
    have far : ∀ b, b ≠ g → (w.setCells g (o + xs.length * R.n) (ys.flatMap R.enc)).heap[b]? = w.heap[b]? := fun b hb => Go.Proofs.YtcbpgbfbffnogaaGreatW.PrintWords.setCells_far (ys.flatMap R.enc) (o + xs.length * R.n) b hb
    refine ⟨((some ⟨g, o, none⟩, (xs ++ ys).length, c), ()), _, by rw [hrun, List.length_append]; rfl, ⟨by rw [s4]; exact Nat.le_refl _, ⟨s1, s2, s3⟩, fun b hb _ => far b (fun h => k3.2 (h ▸ hb))⟩, hk _ c L _ (Or.inr ⟨g, o, cur', rfl, k2, by rw [s4]; exact k3, q1, by rw [List.length_append]; exact hroom, k7, by rw [q2]; exact k8, ?_⟩) (fine _ ⟨s1, s2, s3, by rw [s4]; exact Nat.le_refl _, fun b hb hS => far b (fun h => hS (Or.inr ⟨_, rfl, h.symm⟩)), fun b hb => Or.inl (Or.inl hb)⟩) he.fine.hid (fun b hb => Or.inl hb)⟩
    have hsz : cur.toList.length = cur.size := Array.length_toList
    have hd : (((cur.toList.drop o).take (xs.length * R.n + ys.length * R.n)).drop (xs.length * R.n + (ys.flatMap R.enc).length)) = [] := List.drop_of_length_le (by rw [List.length_take, hl]; omega)
    have ht : ((cur.toList.drop o).take (xs.length * R.n + ys.length * R.n)).take (xs.length * R.n) = xs.flatMap R.enc := by
      rw [List.take_take, Nat.min_eq_left (Nat.le_add_right _ _)]; exact k9
    rw [q3, List.length_append, Nat.add_mul, splice cur.toList (ys.flatMap R.enc) o (xs.length * R.n) (xs.length * R.n + ys.length * R.n) (by rw [hl]; exact Nat.le_refl _) (by omega), List.flatMap_append, hd, ht, List.append_nil]
  · obtain ⟨v', w2, hr, hO, hG⟩ := run_append_arg_grows (P := P) w t ty e i z R.n bytes hu hi hz hn hby hzs R.pos ⟨g, o, none⟩ xs.length c (xs.flatMap R.enc) (flatMap_len xs) (fun j u hj => by
        obtain ⟨⟨cs, g1, g2⟩, _⟩ := hsl
        obtain rfl := reps_flat.1 g2
        obtain ⟨ad, e2, hc, _⟩ := g1 j u hj
        cases e2; exact hc) a ys.length c2 (ys.flatMap R.enc) hl hnews (by omega) h63 hbytes
    rcases hO.2 with ⟨_, h0⟩ | ⟨g', cap', cur', rfl, hb', hblk, hnc, hcm, hcs, htk⟩
    · omega
    refine ⟨((some ⟨g', 0, none⟩, (xs ++ ys).length, cap'), ()), w2, by rw [hr, List.length_append]; rfl, ⟨hG.size, ⟨hG.os, hG.tape, hG.output⟩, fun b hb _ => hG.block b (he.lt b hb) (by simp)⟩, hk _ cap' L w2 (Or.inr ⟨g', 0, cur', rfl, Nat.le_trans hb (Nat.le_trans he.fine.size hb'), ⟨(Array.getElem?_eq_some_iff.1 hblk).1, fun h => by have := he.lt g' h; omega⟩, hblk, by rw [List.length_append]; exact hnc, hcm, by rw [hcs]; omega, ?_⟩) (fine w2 ⟨hG.os, hG.tape, hG.output, hG.size, fun b hb hS => hG.block b hb (by simp), fun b hb => Or.inl (Or.inl hb)⟩) he.fine.hid (fun b hb => ?_)⟩
    · rw [List.drop_zero, List.length_append, List.flatMap_append]; exact htk
    · obtain ⟨ad, had, rfl⟩ := hb
      cases had
      exact Or.inr (Nat.le_trans he.fine.size hb')
end
end Go.Proofs.YtcbpgbfbffnogaaGreatW.Rx
namespace Go.Proofs.YtcbpgbfbffnogaaGreatW.Rx
open Go Go.RowKit
set_option linter.unusedVariables false
set_option linter.unusedSimpArgs false
section
variable {α : Type} {P : Program} {Q : Ending → World → Prop} {pin : List (Nat × Nat)} {J : Jt} {L Lu : Nat → Prop} {wu w : World}
end
end Go.Proofs.YtcbpgbfbffnogaaGreatW.Rx
namespace Go.Proofs.YtcbpgbfbffnogaaGreatW.Rx
open Go Go.RowKit
set_option linter.unusedVariables false
set_option linter.unusedSimpArgs false
section
variable {α : Type} {P : Program} {Q : Ending → World → Prop} {pin : List (Nat × Nat)} {J : Jt} {L Lu : Nat → Prop} {wu w : World}
end
end Go.Proofs.YtcbpgbfbffnogaaGreatW.Rx
namespace Go.Proofs.YtcbpgbfbffnogaaGreatW.Rx
open Go Go.RowKit
set_option linter.unusedVariables false
set_option linter.unusedSimpArgs false
theorem map_add0 (A : Option Addr) : A.map (fun x => x.add 0) = A := by cases A <;> simp [Addr.add]
theorem if_add0 (p : Prop) [Decidable p] (A : Option Addr) : (if p then A else A.map (fun x => x.add 0)) = A := by rw [map_add0, ite_self]
section
variable {α : Type} {R : FRow α} {base e : Nat} {A : Option Addr} {c : Nat} {xs : List α} {L L' : Nat → Prop} {w w' : World}
theorem OwnO.writeC (h : OwnO base L w e R A c xs) (lo : Nat) (ys : List α) (hl : lo ≤ xs.length) (hy : lo + ys.length ≤ c) (hp : 0 < ys.length) :
    ∃ (g o : Nat) (cur C : Array Value), A = some ⟨g, o, none⟩ ∧ w.heap[g]? = some (.cells cur e (0, 0)) ∧ (g < w.heap.size ∧ ¬ L g) ∧ C = (cur.toList.take (o + lo * R.n) ++ ys.flatMap R.enc ++ cur.toList.drop (o + lo * R.n + ys.length * R.n)).toArray ∧ o + lo * R.n + ys.length * R.n ≤ cur.size ∧
      ∀ w2 : World, w2.heap[g]? = some (.cells C e (0, 0)) → w2.heap.size = w.heap.size → OwnO base L w2 e R A c (xs.take lo ++ ys ++ xs.drop (lo + ys.length)) := by
  rcases h with ⟨rfl, rfl, rfl⟩ | ⟨g, o, cur, rfl, k2, k3, k5, k6, k7, k8, k9⟩
  · omega
  · have hn : lo * R.n + ys.length * R.n ≤ c * R.n := by rw [← Nat.add_mul]; exact Nat.mul_le_mul_right _ hy
    have hx : xs.length * R.n ≤ c * R.n := Nat.mul_le_mul_right _ k6
    have hlx : lo * R.n ≤ xs.length * R.n := Nat.mul_le_mul_right _ hl
    have hsz : cur.toList.length = cur.size := Array.length_toList
    have hfl : (ys.flatMap R.enc).length = ys.length * R.n := flatMap_len ys
    have hlen : (xs.take lo ++ ys ++ xs.drop (lo + ys.length)).length = lo + ys.length + (xs.length - (lo + ys.length)) := by simp only [List.length_append, List.length_take, List.length_drop]; omega
    refine ⟨g, o, cur, _, rfl, k5, k3, rfl, by omega, fun w2 hw hs => Or.inr ⟨g, o, _, rfl, k2, by rw [hs]; exact k3, hw, by rw [hlen]; omega, k7, ?_, ?_⟩⟩
    · rw [List.size_toArray, List.length_append, List.length_append, List.length_take, List.length_drop, hsz, flatMap_len]; omega
    · rw [List.toList_toArray, hlen]
      have hN : (lo + ys.length + (xs.length - (lo + ys.length))) * R.n = lo * R.n + ys.length * R.n + (xs.length - (lo + ys.length)) * R.n := by rw [Nat.add_mul, Nat.add_mul]
      have hr : (xs.length - (lo + ys.length)) * R.n = xs.length * R.n - (lo * R.n + ys.length * R.n) := by rw [Nat.sub_mul, Nat.add_mul]
      have := splice cur.toList (ys.flatMap R.enc) o (lo * R.n) (lo * R.n + ys.length * R.n + (xs.length - (lo + ys.length)) * R.n) (by rw [hfl]; omega) (by rw [hsz, hr]; omega)
      rw [hfl] at this
      rw [hN, this, List.flatMap_append, List.flatMap_append, flat_take, flat_drop, ← k9]
      congr 1
      · congr 1
        rw [List.take_take, List.take_take, Nat.min_eq_left (by omega), Nat.min_eq_left (by omega)]
      · rw [List.drop_take, List.drop_take, Nat.add_mul, hr]
        congr 1; omega
theorem OwnO.vis (h : OwnO base L w e R A c xs) (hv : ∀ b, blk (A, 0, 0) b → ¬ L' b) : OwnO base L' w e R A c xs := by
  rcases h with h | ⟨b, o, cur, h1, h2, h3, h5⟩
  · exact Or.inl h
  · exact Or.inr ⟨b, o, cur, h1, h2, ⟨h3.1, hv b ⟨_, h1, rfl⟩⟩, h5⟩
theorem OwnO.others {B : Nat → Prop} (h : OwnO base L w e R A c xs) (hd : ∀ b, blk (A, 0, 0) b → ¬ B b) (g : Fine (fun b => L b ∨ B b) w L' w') : OwnO base L' w' e R A c xs := by
  refine OwnO.later (L := fun b => L b ∨ B b) ?_ g
  rcases h with h | ⟨b, o, cur, h1, h2, ⟨h3, h4⟩, h5, h6⟩
  · exact Or.inl h
  · refine Or.inr ⟨b, o, cur, h1, h2, ⟨h3, fun hb => ?_⟩, h5, h6⟩
    rcases hb with hb | hb
    · exact h4 hb
    · exact hd b ⟨_, h1, rfl⟩ hb
theorem OwnO.home (h : OwnO base L w e R A c xs) {S : Nat → Prop} : ∀ b, blk (A, 0, 0) b → S b ∨ base ≤ b := fun b hb => Or.inr (h.lt b hb).2.2
theorem Fine.with {S B : Nat → Prop} {w0 : World} (g : Fine S w0 L w) (hB : ∀ b, B b → S b ∨ w0.heap.size ≤ b) : Fine S w0 B w := ⟨g.os, g.tape, g.output, g.size, g.keep, hB⟩
theorem Dj.blks {B C : Option Addr} (h : Dj A B) : ∀ b, blk (A, 0, 0) b → ¬ blk (B, 0, 0) b := h
end
theorem OwnF.others {α : Type} {R : FRow α} {base e : Nat} {A : Option Addr} {c : Nat} {xs : List α} {L L' B : Nat → Prop} {w w' : World} (h : OwnF base L w e R A c xs) (hd : ∀ b, blk (A, 0, 0) b → ¬ B b) (g : Fine (fun b => L b ∨ B b) w L' w') : OwnF base L' w' e R A c xs :=
  Own.later (Own.more h fun ad ha hb => hd ad.block ⟨ad, ha, rfl⟩ hb) g
section
variable {α : Type} {P : Program} {Q : Ending → World → Prop} {pin : List (Nat × Nat)} {J : Jt} {L Lu : Nat → Prop} {wu w : World}
theorem run_copy_zero {t1 t2 ty e : Nat} {D A2 : Option Addr} {dl d n2 c2 : Nat} {i : TypeInfo} (hu : P.underlying t1 = some (.slice e)) (hi : P.info? e = some i) (hm : min n2 dl = 0) (w : World) : (Builtin.copy_ #[t1, t2] ty #[.slice D dl d, .slice A2 n2 c2]).run P w = .ok (.int .i64 (0 : Nat)) w := by
  have hm' : Nat.min n2 dl = 0 := hm
  cases A2 <;> cases D <;> simp [Builtin.copy_, run_underlying hu, Builtin.lenOf, Builtin.firstCells, sizeOf, typeInfo, hi, goInt, loadCells, loadCellsFrom, storeCells, hm']
theorem ok_copyC {R : FRow α} {t1 t2 ty e base bytes : Nat} {A D A2 : Option Addr} {c c2 d dl n2 : Nat} {xs ys : List α} {k : Tup [Lf.i .i64] → XT} (lo : Nat) (hE : Elem P t1 e R.n bytes) (ho : OwnO base Lu wu e R A c xs) (hs : SlR R.row Lu wu A2 c2 ys) (hm : min n2 dl = ys.length) (hlo : lo ≤ xs.length) (hlc : lo + ys.length ≤ c) (hD : 0 < ys.length → D = A.map (fun x => x.add (lo * R.n)))
    (hk : ∀ L w, OwnO base L w e R A c (xs.take lo ++ ys ++ xs.drop (lo + ys.length)) → Fine (fun b => Lu b ∨ blk (A, 0, 0) b) wu L w → (∀ q, L q → Lu q ∨ wu.heap.size ≤ q) → (k ((ys.length : Nat), ())).ok P pin Q J L w) :
    (XT.sem (Builtin.copy_ #[t1, t2] ty #[.slice D dl d, .slice A2 n2 c2]) [Lf.i .i64] Sh.one k).ok P pin Q J Lu wu := by
  obtain ⟨hu, i, z, hi, hz, hn, hby, hzs⟩ := hE
  intro L w he
  have ho := ho.later he.fine
  have hs := hs.later he.fine
  rcases Nat.eq_zero_or_pos ys.length with h0 | h0
  · obtain rfl : ys = [] := List.eq_nil_of_length_eq_zero h0
    refine ⟨((0 : Nat), ()), w, run_copy_zero hu hi (by simpa using hm) w, ⟨Nat.le_refl _, ⟨rfl, rfl, rfl⟩, fun b hb _ => rfl⟩, ?_⟩
    have := hk L w (by simpa using ho) ⟨he.fine.os, he.fine.tape, he.fine.output, he.fine.size, fun b hb hS => he.fine.keep b hb (fun h => hS (Or.inl h)), fun b hb => by
        rcases he.fine.hid b hb with h | h
        · exact Or.inl (Or.inl h)
        · exact Or.inr h⟩ he.fine.hid
    simpa using this
  obtain ⟨g, o, cur, C, rfl, k5, k3, hC, hfit, hw⟩ := ho.writeC lo ys hlo hlc h0
  obtain ⟨a, rfl⟩ := Option.isSome_iff_exists.1 (hs.some h0)
  obtain ⟨⟨cs, h1, h2⟩, h3, h4⟩ := hs
  have h2 := reps_flat.1 h2
  subst h2
  have hadd : (⟨g, o, none⟩ : Addr).add (lo * R.n) = ⟨g, o + lo * R.n, none⟩ := by
    unfold Addr.add
    split
    · rename_i h; rw [h]; rfl
    · rfl
  have hmm : Nat.min n2 dl = ys.length := hm
  have hcl : (ys.flatMap R.enc).length = Nat.min n2 dl * R.n := by rw [flatMap_len, hmm]
  have hrun := run_copy_rowN (P := P) w t1 t2 ty e R.n g (o + lo * R.n) dl d a n2 c2 cur e (ys.flatMap R.enc) hu (by rw [hi]; simp [hn]) k5 hcl
    (fun j v hj => by
      obtain ⟨ad, e2, hc, _⟩ := h1 j v hj
      cases e2; exact hc)
    (by rw [hcl, hmm]; exact hfit) (Reps.one (R := R.row) (L := fun _ => False) (w := w) (reps_flat.2 rfl))
  rw [hcl, hmm] at hrun
  rw [← hC] at hrun
  refine ⟨((ys.length : Nat), ()), w.setRow g C, ?_, ⟨by rw [size_setRow]; exact Nat.le_refl _, ⟨rfl, rfl, rfl⟩, fun b hb _ => setRow_other w g b C (fun h => k3.2 (h ▸ hb))⟩, ?_⟩
  · rw [hD h0]
    simp only [Option.map_some, hadd]
    exact hrun
  · refine hk L _ (hw _ (setRow_heap w g cur C e (0, 0) k5) (size_setRow _ _ _)) ?_ he.fine.hid
    refine ⟨he.fine.os, he.fine.tape, he.fine.output, by rw [size_setRow]; exact he.fine.size, fun b hb hS => ?_, fun b hb => ?_⟩
    · rw [setRow_other w g b C (fun h => hS (Or.inr ⟨_, rfl, h.symm⟩))]
      exact he.fine.keep b hb (fun h => hS (Or.inl h))
    · rcases he.fine.hid b hb with h | h
      · exact Or.inl (Or.inl h)
      · exact Or.inr h
end
end Go.Proofs.YtcbpgbfbffnogaaGreatW.Rx
namespace Go.Proofs.YtcbpgbfbffnogaaGreatW.Rx
open Go Go.RowKit
set_option linter.unusedVariables false
set_option linter.unusedSimpArgs false
def step {τ σ ρ : Type} (mk : τ → σ) : Sum τ ρ → Sum σ ρ
  | .inl t => .inl (mk t)
  | .inr r => .inr r
def foldE {α τ ρ : Type} (g : τ → α → Option (Sum τ ρ)) (fin : τ → Option ρ) : List α → τ → Option ρ
  | [], t => fin t
  | x :: r, t => (g t x).bind fun o => match o with
    | .inl t' => foldE g fin r t'
    | .inr y => some y
end Go.Proofs.YtcbpgbfbffnogaaGreatW.Rx
