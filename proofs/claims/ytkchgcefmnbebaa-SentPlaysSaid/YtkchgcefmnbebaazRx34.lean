import Derived.Test.YtkchgcefmnbebaazRx33
namespace Go.Proofs.YtkchgcefmnbebaaW.Rx
open Go Go.RowKit
set_option linter.unusedVariables false
set_option linter.unusedSimpArgs false
variable {P : Program} {pin : List (Nat × Nat)} {R : Ending → World → Prop} {N : NL}
variable {ρ : Nat → Nat} {s : ASt} {a : Act} {w : World}
variable {A : Nat → LA} {C : Nat → Option LA} {KS pk : List Nat} {drawX : Nat → Array Oper → ASt → (ASt → XT) → XT}
theorem wp_mid_ (hmix : ∀ id ops s k (J : Jt) a w, Inv fx0 P pin R N s (drawX ((id + 1) * 1000) ops s k) J a w → (Code.region id ops true).wp P (fun e a' w' => (e = .normal ∧ ∃ s', Went (dsts ops) s s' ∧ Inv fx0 P pin R N s' (k s') J a' w') ∨ ∃ ps, e = .panic ps ∧ Held fx0 N a' ∧ R (.panicked ps) w') a w)
  (hdraw : ∀ base ops s k (p : Nat → Prop), (∀ s', XT.loc (k s') p) → (drawX base ops s k).loc p)
  {fn : Func} {c : Code} {args : List AV} {out : Out} (ρ : Nat → Nat)
  (hN : N = ⟨args.length + (fn.ntmps - args.length), 0⟩) (hpin : Pin pin ρ) (hpk : ∀ q ∈ pin, q.1 ∈ pk) (hpo : ∀ q ∈ pin, ∃ x ∈ out, x.1 = q.1)
  (hout : ∀ x ∈ out, w.heap[ρ x.1]? = some (.cells (AV.gs ρ x.2.1).toArray x.2.2 (0, 0))) (hapart : ∀ x ∈ out, ∀ y ∈ out, ρ x.1 = ρ y.1 → x.1 = y.1)
  (hwa : AV.wfs (startX args N.n out).D args = true) (hwo : out.all (fun x => AV.wfs (startX args N.n out).D x.2.1) = true)
  (h : (X P N A C KS pk drawX c 0 (startX args N.n out) (leaveX P fn pk)).ok P pin R noJ (fun b => ∃ x ∈ out, ρ x.1 = b) w) :
  c.wp P (bodyPost P fn R) { tmps := (AV.gs ρ args).toArray ++ Array.replicate (fn.ntmps - (AV.gs ρ args).toArray.size) undef, defers := [] } w := by
 have hD : ∀ k, (startX args N.n out).D k = true → ∃ c T, (k, c, T) ∈ out := by
  intro k hk
  obtain ⟨⟨c, T⟩, hb⟩ := Option.isSome_iff_exists.1 hk
  exact ⟨c, T, find_mem hb⟩
 have hrel : Rel fx0 N ρ (startX args N.n out) { tmps := (AV.gs ρ args).toArray ++ Array.replicate (fn.ntmps - (AV.gs ρ args).toArray.size) undef, defers := [] } w := by
  refine ⟨by simp [gs_len, hN], ?_, ?_, ?_, ?_, ?_, rfl, fun j hj => by rw [hN] at hj; exact absurd hj (Nat.not_lt_zero _)⟩
  ·intro j x hx
   simp only [startX] at hx
   have hget : ∀ y, args[j]? = some y → j < args.length := fun y hy => (List.getElem?_eq_some_iff.1 hy).1
   split at hx
   ·rename_i y hy
    cases hx
    have hj := hget _ hy
    have hg := gs_get (ρ := ρ) _ _ _ hy
    have hj' : j < (AV.gs ρ args).length := by rw [gs_len]; exact hj
    rw [Array.getD_eq_getD_getElem?, Array.getElem?_append_left (by simpa using hj')]
    simp [hg]
   ·rename_i hn
    split at hx
    ·cases hx
     have hj : args.length ≤ j := by simpa using hn
     rw [Array.getD_eq_getD_getElem?, Array.getElem?_append_right (by simpa [gs_len] using hj)]
     simp only [Array.getElem?_replicate, AV.g]
     split <;> rfl
    ·cases hx
  ·intro j x hx
   simp only [startX] at hx
   split at hx
   ·rename_i y hy
    cases hx
    exact wfs_get _ _ _ hy hwa
   ·split at hx
    ·cases hx; rfl
    ·cases hx
  ·exact fun k c T hb => hout _ (find_mem hb)
  ·exact fun k c T hb => (List.all_eq_true.1 hwo) _ (find_mem hb)
  ·intro k k' hk hk' he
   obtain ⟨c, T, h1⟩ := hD k hk
   obtain ⟨c', T', h2⟩ := hD k' hk'
   exact hapart _ h1 _ h2 he
 have hinv : Inv fx0 P pin R N (startX args N.n out) (X P N A C KS pk drawX c 0 (startX args N.n out) (leaveX P fn pk)) noJ { tmps := (AV.gs ρ args).toArray ++ Array.replicate (fn.ntmps - (AV.gs ρ args).toArray.size) undef, defers := [] } w := by
  refine ⟨ρ, _, _, w, h, hrel, ?_, Ext.refl ?_, hpin, ?_⟩
  ·intro k hk
   obtain ⟨c, T, h1⟩ := hD k hk
   exact ⟨_, h1, rfl⟩
  ·rintro b ⟨x, hx, rfl⟩
   exact (Array.getElem?_eq_some_iff.1 (hout x hx)).1
  ·intro q hq
   obtain ⟨x, hx, he⟩ := hpo q hq
   simp only [ASt.D, startX, Option.isSome_map, List.find?_isSome]
   exact ⟨x, hx, by rw [he]; simp⟩
 refine wp_mono (X_ok hmix hdraw hpk c 0 _ _ _ _ _ ?_ hinv) ?_
 ·intro e s'
  unfold leaveX
  split
  ·trivial
  ·split <;> trivial
 ·rintro e a' w' (⟨e', s', rfl, hw, ρ', L, Lu, wu, hok, hrel', hL, hext, hpin', hpd⟩ | ⟨ps, rfl, hR⟩)
  case inr => exact ⟨hR.1.1, hR.2⟩
  have key : (e' = .norm ∨ e' = .ret) → a'.defers = [] ∧ ∃ v, (results fn a'.tmps).run P w' = .ok v w' ∧ R (.returned v) w' := by
   intro he
   have hok' : (match allX P s' fn.results.toList, outOf s' pk with | some l, some out => XT.done (oneX l) out | _, _ => .bad "results").ok P pin R noJ Lu wu := by
    rcases he with rfl | rfl <;> exact hok
   split at hok'
   ·rename_i l out' hl ho
    obtain ⟨o1, o2, _⟩ := outOf_ok hrel' hL _ _ ho
    exact ⟨hrel'.defers.1, _, results_ok hrel' fn l hl, hok' ρ' L w' hpin' hext o1 o2⟩
   ·exact hok'.elim
  cases e' with
  | norm => exact key (Or.inl rfl)
  | ret => exact key (Or.inr rfl)
  | exit i => exact hok.elim
def treeMid (P : Program) (A : Nat → LA) (C : Nat → Option LA) (fn : Func) (c : Code) (args : List AV) (out : Out) : XT :=
 X P ⟨fn.ntmps, 0⟩ A C (out.map (·.1) ++ codeKeys c) (out.map (·.1)) (Rx.drawX P ⟨fn.ntmps, 0⟩) c 0 (startX args fn.ntmps out) (leaveX P fn (out.map (·.1)))
theorem wp_mid (hm : P.follows .mixedOrders = true) {fn : Func} {c : Code} (A : Nat → LA) (C : Nat → Option LA) (args : List AV) (out : Out) (pin : List (Nat × Nat)) (ρ : Nat → Nat)
  (hN : Nat.ble args.length fn.ntmps = true) (hpin : Pin pin ρ) (hpk : pin.map (·.1) = out.map (·.1))
  (hout : ∀ x ∈ out, w.heap[ρ x.1]? = some (.cells (AV.gs ρ x.2.1).toArray x.2.2 (0, 0))) (hapart : ∀ x ∈ out, ∀ y ∈ out, ρ x.1 = ρ y.1 → x.1 = y.1)
  (hwa : AV.wfs (startX args fn.ntmps out).D args = true) (hwo : out.all (fun x => AV.wfs (startX args fn.ntmps out).D x.2.1) = true)
  (h : (treeMid P A C fn c args out).ok P pin R noJ (fun b => ∃ x ∈ out, ρ x.1 = b) w) : c.wp P (bodyPost P fn R) { tmps := (AV.gs ρ args).toArray ++ Array.replicate (fn.ntmps - (AV.gs ρ args).toArray.size) undef, defers := [] } w := by
 refine wp_mid_ (N := ⟨fn.ntmps, 0⟩) (A := A) (C := C) (KS := out.map (·.1) ++ codeKeys c) (pk := out.map (·.1)) (drawX := Rx.drawX P ⟨fn.ntmps, 0⟩) (fun id ops s k J a w h => draw_ok hm id ops s k J a w h) (fun base ops s k p h => drawX_loc base ops s k p h) ρ ?_ hpin ?_ ?_ hout hapart hwa hwo ?_
 ·have := Nat.le_of_ble_eq_true hN; congr 1; omega
 ·intro q hq; rw [← hpk]; exact List.mem_map_of_mem hq
 ·intro q hq
  have : q.1 ∈ out.map (·.1) := by rw [← hpk]; exact List.mem_map_of_mem hq
  obtain ⟨x, hx, he⟩ := List.mem_map.1 this
  exact ⟨x, hx, he⟩
 ·exact h
end Go.Proofs.YtkchgcefmnbebaaW.Rx
