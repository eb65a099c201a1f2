/- The machine for walks: calls that turn known blocks; reads of what stood at the beginning; loops. -/
import Derived.Test.YtggemgbkkhpenaaRx15
namespace Go.Proofs.YtggemgbkkhpenaaW.Rx
open Go Go.RowKit
set_option linter.unusedVariables false
set_option linter.unusedSimpArgs false
def Away (ρ : Nat → Nat) (b : Nat) : Out → Prop
  | [] => True
  | (k, _, _) :: r => ρ k ≠ b ∧ Away ρ b r
theorem away_iff {ρ : Nat → Nat} {b : Nat} : ∀ {ex : Out}, Away ρ b ex ↔ ∀ x ∈ ex, ρ x.1 ≠ b
  | [] => by simp [Away]
  | (k, c, T) :: r => by
    simp only [Away, List.mem_cons]
    rw [away_iff]
    constructor
    · rintro ⟨h1, h2⟩ x (rfl | hx)
      · exact h1
      · exact h2 x hx
    · intro h
      exact ⟨h _ (Or.inl rfl), fun x hx => h x (Or.inr hx)⟩
/-- Nothing but the told blocks is turned. -/
def Chg (ρ : Nat → Nat) (ex : Out) (w w2 : World) : Prop :=
  w.heap.size ≤ w2.heap.size ∧ (w2.os = w.os ∧ w2.tape = w.tape ∧ w2.output = w.output) ∧ ∀ b, b < w.heap.size → Away ρ b ex → w2.heap[b]? = w.heap[b]?
/-- What a call that turns told blocks answers. -/
def Turns (P : Program) (f : FuncId) (args : List AV) (ρ : Nat → Nat) (ex : Out) (w : World) (r : AV) (cs : List (List Value)) : Prop :=
  Calls P f (AV.gs ρ args).toArray w fun e w2 => e = .returned (r.g ρ) ∧ Back ρ w2 ex cs ∧ Chg ρ ex w w2
/-- The told blocks stand as they are told. -/
def Stand (ρ : Nat → Nat) (w : World) : Out → Prop
  | [] => True
  | (k, c, T) :: r => w.heap[ρ k]? = some (.cells (AV.gs ρ c).toArray T (0, 0)) ∧ Stand ρ w r
theorem stand_of {ρ : Nat → Nat} {L : Nat → Prop} {w : World} : ∀ {ex : Out}, Outs ρ L w ex → Stand ρ w ex
  | [], _ => trivial
  | (k, c, T) :: r, h => ⟨h.1.2, stand_of h.2⟩
theorem stand_mem {ρ : Nat → Nat} {w : World} : ∀ {ex : Out}, Stand ρ w ex → ∀ x ∈ ex, w.heap[ρ x.1]? = some (.cells (AV.gs ρ x.2.1).toArray x.2.2 (0, 0))
  | (k, c, T) :: r, h, x, hx => by
    rcases List.mem_cons.1 hx with rfl | hx
    · exact h.1
    · exact stand_mem h.2 x hx
theorem outs_hid {ρ : Nat → Nat} {L : Nat → Prop} {w : World} : ∀ {ex : Out}, Outs ρ L w ex → ∀ x ∈ ex, L (ρ x.1)
  | (k, c, T) :: r, h, x, hx => by
    rcases List.mem_cons.1 hx with rfl | hx
    · exact h.1.1
    · exact outs_hid h.2 x hx
theorem apart_inj {ρ : Nat → Nat} : ∀ {ex : Out}, Apart ρ ex → ∀ x ∈ ex, ∀ y ∈ ex, ρ x.1 = ρ y.1 → x.1 = y.1
  | (k, c, T) :: r, h, x, hx, y, hy, e => by
    rcases List.mem_cons.1 hx with rfl | hx
    · rcases List.mem_cons.1 hy with rfl | hy
      · rfl
      · exact absurd e.symm (h.1 y hy)
    · rcases List.mem_cons.1 hy with rfl | hy
      · exact absurd e (h.1 x hx)
      · exact apart_inj h.2 x hx y hy e
/-- Other keys, the same blocks. -/
theorem apart_map {ρ ρ' : Nat → Nat} : ∀ {ex ex' : Out}, (ex'.map fun x => ρ' x.1) = (ex.map fun x => ρ x.1) → Apart ρ ex → Apart ρ' ex'
  | [], [], _, _ => trivial
  | (k, c, T) :: r, (k', c', T') :: r', e, h => by
    simp only [List.map_cons, List.cons.injEq] at e
    refine ⟨fun x hx => ?_, apart_map e.2 h.2⟩
    have hm : ρ' x.1 ∈ r'.map fun x => ρ' x.1 := List.mem_map_of_mem (f := fun x : Nat × List AV × TypeId => ρ' x.1) hx
    rw [e.2] at hm
    obtain ⟨y, hy, hxy⟩ := List.mem_map.1 hm
    have := h.1 y hy
    rw [e.1, ← hxy]
    exact this
/-- The blocks of a function's own pins. -/
def pinOf (ρ : Nat → Nat) (out : Out) : List (Nat × Nat) := out.map fun x => (x.1, ρ x.1)
def own (ρ : Nat → Nat) (out : Out) : Nat → Prop := fun b => ∃ x ∈ out, ρ x.1 = b
theorem back_of {ρ ρ' : Nat → Nat} {L : Nat → Prop} {w : World} : ∀ (out out' : Out), Outs ρ' L w out' → out'.map (·.1) = out.map (·.1) → out'.map (·.2.2) = out.map (·.2.2) → (∀ x ∈ out, ρ' x.1 = ρ x.1) → Back ρ w out (out'.map fun x => AV.gs ρ' x.2.1)
  | [], [], _, _, _, _ => trivial
  | (k, c, T) :: r, (k', c', T') :: r', h, h1, h2, h3 => by
    simp only [List.map_cons, List.cons.injEq] at h1 h2
    obtain ⟨rfl, h1⟩ := h1
    obtain ⟨rfl, h2⟩ := h2
    refine ⟨?_, back_of r r' h.2 h1 h2 (fun x hx => h3 x (by simp [hx]))⟩
    rw [← h3 (k', c, T') (by simp)]
    exact h.1.2
section rules
variable {P : Program} {R : Ending → World → Prop} {w : World} {pin : List (Nat × Nat)} {J : Jt} {S L Lu : Nat → Prop} {w0 wu : World} {ρ : Nat → Nat}
/-- A function that is given blocks. -/
theorem enterT (hm : P.follows .mixedOrders = true) {f : FuncId} {fn : Func} {c : Code} (A : Nat → LA) (C : Nat → Option LA) (args : List AV) (out : Out) (ρ : Nat → Nat)
    (hf : P.funcs[f]? = some fn) (hb : fn.body = some c) (hN : Nat.ble args.length fn.ntmps = true) (ht : Stand ρ w out) (hap : Apart ρ out)
    (hwa : AV.wfs (startX args fn.ntmps out).D args = true) (hwo : out.all (fun x => AV.wfs (startX args fn.ntmps out).D x.2.1) = true)
    (h : Fine (own ρ out) w (own ρ out) w → (tree P A C fn args out).ok P (pinOf ρ out) R noJ (own ρ out) w) : Calls P f (AV.gs ρ args).toArray w R := by
  refine enter hm A C args out (pinOf ρ out) ρ hf hb hN ?_ ?_ (stand_mem ht) (apart_inj hap) hwa hwo (h ⟨rfl, rfl, rfl, Nat.le_refl _, fun _ _ _ => rfl, fun b hb => Or.inl hb⟩)
  · intro q hq
    unfold pinOf at hq
    obtain ⟨x, hx, rfl⟩ := List.mem_map.1 hq
    rfl
  · unfold pinOf; rw [List.map_map]; rfl
theorem pin_of {ρ' : Nat → Nat} {out : Out} (h : Pin (pinOf ρ out) ρ') : ∀ x ∈ out, ρ' x.1 = ρ x.1 := fun x hx => h (x.1, ρ x.1) (List.mem_map.2 ⟨x, hx, rfl⟩)
/-- A value is answered, and the given blocks stand as they are told at the end. -/
theorem ok_doneT {r : AV} {out out' : Out} {v : AV} (h : Fine (own ρ out) w0 Lu wu) (h1 : out'.map (·.1) = out.map (·.1)) (h2 : out'.map (·.2.2) = out.map (·.2.2)) (hr : r.wf (fun _ => false) = true) (ho : out'.all (fun x => AV.wfs (fun _ => false) x.2.1) = true) (hv : r = v) {cs : List (List Value)} (hcs : (out'.map fun x => AV.gs id x.2.1) = cs) :
    (XT.done r out').ok P (pinOf ρ out) (fun e w2 => e = .returned (v.g ρ) ∧ Back ρ w2 out cs ∧ Chg ρ out w0 w2) J Lu wu := by
  intro ρ' L w hp he hout _
  have hf := h.ext he
  subst hv hcs
  refine ⟨by rw [g_congr (D := fun _ => false) (ρ := ρ') (σ := ρ) (fun k hk => by cases hk) r hr], ?_, hf.size, ⟨hf.os, hf.tape, hf.output⟩, fun b hb hx => hf.keep b hb (fun ⟨x, hx', e⟩ => away_iff.1 hx x hx' e)⟩
  have hb := back_of (ρ := ρ) out out' hout h1 h2 (pin_of hp)
  have e : (out'.map fun x => AV.gs ρ' x.2.1) = out'.map fun x => AV.gs id x.2.1 := List.map_congr_left fun x hx => gs_none _ ((List.all_eq_true.1 ho) x hx) id
  rw [← e]; exact hb
/-- A call that turns told blocks. -/
theorem ok_callT {f : FuncId} {args : List AV} {ex : Out} {sh : Sh} {ls : List Lf} {les : List Nat} {k : Tup ls → XT} (x : Tup ls) (h : Fine S w0 Lu wu)
    (hc : ∀ ρ L w, Pin pin ρ → Fine S w0 L w → Ext Lu wu L w → Outs ρ L w ex → Apart ρ ex → Turns P f args ρ ex w (sh.av (vs ls x)) (segs les ((Tup.V ls x).drop (ls.length - les.sum))))
    (hk : ∀ L w, Fine S w0 L w → (k x).ok P pin R J L w) : (XT.call f args ex sh ls les k).ok P pin R J Lu wu := by
  intro ρ L w hp he hout hap
  have hf := h.ext he
  refine (hc ρ L w hp hf he hout hap).mono ?_
  rintro e w2 ⟨rfl, hb, hsz, hsame, hkeep⟩
  refine ⟨x, rfl, hb, ⟨hsz, hsame, fun b hl hx => hkeep b (he.lt b hl) (away_iff.2 hx)⟩, hk L w2 ⟨hsame.1.trans hf.os, hsame.2.1.trans hf.tape, hsame.2.2.trans hf.output, Nat.le_trans hf.size hsz, ?_, hf.hid⟩⟩
  intro b hb0 hS
  rw [hkeep b (Nat.lt_of_lt_of_le hb0 hf.size) (away_iff.2 ?_)]
  · exact hf.keep b hb0 hS
  · intro y hy e
    rcases hf.hid _ (outs_hid hout y hy) with h1 | h1
    · exact hS (e ▸ h1)
    · omega
theorem cell_spot {w : World} {a : Addr} {v : Value} (h : w.cell? a = some v) : a.spot = none ∧ a.block < w.heap.size := by
  unfold World.cell? at h
  split at h
  · rename_i c e fr hb
    split at h
    · cases h
    · rename_i hs
      exact ⟨by simpa using hs, (Array.getElem?_eq_some_iff.1 hb).1⟩
  · cases h
theorem cell_fine {a : Addr} {v : Value} (h : Fine S w0 Lu wu) (hS : ¬ S a.block) (hc : w0.cell? a = some v) : wu.cell? a = some v := by
  have hb := (cell_spot hc).2
  unfold World.cell? at hc ⊢
  rw [h.keep _ hb hS]
  exact hc
/-- A read of what stood at the beginning. -/
theorem ok_ld {a : Option Addr} {ad : Addr} {l : Lf} {k : Tup [l] → XT} (x : Tup [l]) (h : Fine S w0 Lu wu) (ha : a = some ad) (hS : ¬ S ad.block) (hc : w0.cell? ad = some (l.V x.1)) (hk : (k x).ok P pin R J Lu wu) : (XT.ld a [l] k).ok P pin R J Lu wu := by
  obtain ⟨h1, h2⟩ := cell_spot hc
  refine ⟨ad, x, ha, h1, Nat.lt_of_lt_of_le h2 h.size, ?_, ?_, hk⟩
  · intro hl
    rcases h.hid _ hl with h3 | h3
    · exact hS h3
    · omega
  · intro j v hv
    match j, hv with
    | 0, hv =>
      simp only [Tup.V, List.getElem?_cons_zero, Option.some.injEq] at hv
      subst hv
      exact cell_fine h hS hc
    | j + 1, hv => simp [Tup.V] at hv
/-- A loop. -/
theorem ok_loop {ls : List Lf} {x : Tup ls} {lvl : Nat} {body : Tup ls → XT} (I : Nat → Tup ls → (Nat → Prop) → World → Prop) (n : Nat) (h0 : I n x Lu wu)
    (hr : ∀ n y L w, I n y L w → (body y).ok P pin R (J.set lvl fun ls' z L' w' => ∃ h : ls' = ls, ∃ m, m < n ∧ I m (h ▸ z) L' w') L w) : (XT.loop ls x lvl body).ok P pin R J Lu wu := ⟨I, ⟨n, h0⟩, hr⟩
theorem ok_again {ls : List Lf} {x : Tup ls} {lvl n : Nat} {I : Nat → Tup ls → (Nat → Prop) → World → Prop} (m : Nat) (hm : m < n) (h : ∀ L w, Ext Lu wu L w → I m x L w) :
    (XT.again lvl ls x).ok P pin R (J.set lvl fun ls' z L' w' => ∃ h : ls' = ls, ∃ m, m < n ∧ I m (h ▸ z) L' w') Lu wu := by
  intro L w he
  unfold Jt.set
  rw [if_pos rfl]
  exact ⟨rfl, m, hm, h L w he⟩
/-- Ways meet. -/
theorem ok_cut {ls : List Lf} {lvl : Nat} {body : XT} {k : Tup ls → XT} (I : Tup ls → (Nat → Prop) → World → Prop)
    (hb : body.ok P pin R (J.set lvl fun ls' z L w => ∃ h : ls' = ls, I (h ▸ z) L w) Lu wu) (hk : ∀ y L w, I y L w → (k y).ok P pin R J L w) : (XT.cut ls lvl body k).ok P pin R J Lu wu := ⟨I, hb, hk⟩
theorem ok_meet {ls : List Lf} {x : Tup ls} {lvl : Nat} {I : Tup ls → (Nat → Prop) → World → Prop} (h : ∀ L w, Ext Lu wu L w → I x L w) :
    (XT.again lvl ls x).ok P pin R (J.set lvl fun ls' z L w => ∃ h : ls' = ls, I (h ▸ z) L w) Lu wu := by
  intro L w he
  unfold Jt.set
  rw [if_pos rfl]
  exact ⟨rfl, h L w he⟩
/-- An operation of the model. -/
theorem ok_sem {s : Sem Value} {ls : List Lf} {sh : Sh} {k : Tup ls → XT} (h : Fine S w0 Lu wu)
    (hc : ∀ L w, Ext Lu wu L w → Fine S w0 L w → ∃ (x : Tup ls) (w2 : World), s.run P w = .ok ((sh.av (vs ls x)).g id) w2 ∧ Below w.heap.size w w2 ∧ (k x).ok P pin R J L w2) : (XT.sem s ls sh k).ok P pin R J Lu wu := by
  intro L w he
  obtain ⟨x, w2, h1, h2, h3⟩ := hc L w he (h.ext he)
  exact ⟨x, w2, h1, keeps_below he.lt h2, h3⟩
end rules
end Go.Proofs.YtggemgbkkhpenaaW.Rx
