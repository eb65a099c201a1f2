import Derived.Test.YtkchgcefmnbebaazSm5
import Derived.Test.YtkchgcefmnbebaazRx34
namespace Go.Proofs.Ytkchgcefmnbebaa.X
open Go Go.RowKit Go.Proofs.YtkchgcefmnbebaaW.Rx
set_option linter.unusedVariables false
set_option linter.unusedSimpArgs false
set_option maxRecDepth 20000
abbrev Led := List Pk × Int × Int × Int
@[reducible] def RW58 : FRow (Option Nat × Int × Int × Int) := ⟨4, by decide, fun x => [Value.map x.1, Value.int IntKind.i64 x.2.1, Value.int IntKind.i64 x.2.2.1, Value.int IntKind.i64 x.2.2.2], fun _ => rfl, fun x u h => by
 simp only [List.mem_cons, List.not_mem_nil, or_false] at h
 rcases h with rfl | rfl | rfl | rfl <;> rfl⟩
def lb (g b : Nat) : Prop := b = g ∨ b = g + 1
abbrev lp (g : Nat) : Option Addr := some ⟨g + 1, 0, none⟩
theorem lp_blk {g b : Nat} : blk (lp g, 0, 0) b ↔ b = g + 1 := by
 constructor
 ·rintro ⟨ad, h, rfl⟩; cases h; rfl
 ·rintro rfl; exact ⟨_, rfl, rfl⟩
structure LedO (L : Nat → Prop) (w : World) (g : Nat) (q : Led) : Prop where
 obj : OwnO 0 L w 58 RW58 (lp g) 1 [(some g, q.2)]
 vis : ¬ L g
 map : ∃ es clock, MapAt w g q.1 es clock
structure LedG (q : Led) : Prop where
 sorted : q.1.Pairwise fun x y => x.1 < y.1
 rng : ∀ p ∈ q.1, 0 ≤ p.1 ∧ p.1 ≤ q.2.2.1
 last : q.2.2.1 ≤ 4611686018427387903
 len : q.1.length ≤ 512
theorem LedG.rng' {q : Led} (h : LedG q) : ∀ p ∈ q.1, 0 ≤ p.1 ∧ p.1 ≤ 4611686018427387903 := fun p hp => by have := h.rng p hp; have := h.last; omega
theorem LedG.filter {q : Led} (h : LedG q) (f : Pk → Bool) : LedG (q.1.filter f, q.2) :=
 ⟨h.sorted.filter _, fun p hp => h.rng p (List.mem_filter.1 hp).1, h.last, Nat.le_trans (List.length_filter_le _ _) h.len⟩
section
variable {L L' : Nat → Prop} {w w' : World} {g : Nat} {q : Led}
theorem LedO.lt (h : LedO L w g q) (b : Nat) (hb : lb g b) : b < w.heap.size ∧ ¬ L b := by
 rcases hb with rfl | rfl
 ·obtain ⟨es, clock, hm⟩ := h.map
  exact ⟨hm.lt, h.vis⟩
 ·have := h.obj.lt (g + 1) (lp_blk.2 rfl)
  exact ⟨this.1, this.2.1⟩
theorem LedO.later (h : LedO L w g q) (f : Fine L w L' w') : LedO L' w' g q := by
 refine ⟨h.obj.later f, fun hl => ?_, ?_⟩
 ·rcases f.hid g hl with h1 | h1
  ·exact h.vis h1
  ·have := (h.lt g (Or.inl rfl)).1; omega
 ·obtain ⟨es, clock, hm⟩ := h.map
  exact ⟨es, clock, hm.later (f.keep g hm.lt h.vis)⟩
theorem LedO.seen (h : LedO L w g q) (hv : ∀ b, lb g b → ¬ L' b) : LedO L' w g q :=
 ⟨h.obj.vis (fun b hb => hv b (Or.inr (lp_blk.1 hb))), hv g (Or.inl rfl), h.map⟩
theorem LedO.bare (h : LedO L w g q) : LedO (fun _ => False) w g q := h.seen (fun _ _ h => h)
theorem LedO.others {B : Nat → Prop} (h : LedO L w g q) (hd : ∀ b, lb g b → ¬ B b) (f : Fine (fun b => L b ∨ B b) w L' w') : LedO L' w' g q :=
 LedO.later (L := fun b => L b ∨ B b) ⟨h.obj.vis (fun b hb hl => hl.elim (h.lt b (Or.inr (lp_blk.1 hb))).2 (hd b (Or.inr (lp_blk.1 hb)))), fun hl => hl.elim h.vis (hd g (Or.inl rfl)), h.map⟩ f
theorem LedO.cell (h : LedO L w g q) : w.cell? ⟨g + 1, 0, none⟩ = some (.map (some g)) := by
 obtain ⟨⟨cs, h1, h2⟩, _⟩ := h.obj.sl
 rw [reps_flat] at h2
 obtain ⟨ad, ha, hc, _⟩ := h1 0 (.map (some g)) (by rw [h2]; rfl)
 cases ha
 exact hc
end
section
variable {P : Program} {Q : Ending → World → Prop} {pin : List (Nat × Nat)} {J : Jt} {L Lu : Nat → Prop} {wu w : World} {g : Nat} {q : Led}
theorem ok_del {k e ty : TypeId} {t : TypeId} {kk : Tup [] → XT} (h : LedO Lu wu g q) (hs : q.1.Pairwise fun x y => x.1 < y.1) (ht : P.underlying t = some (.map k e)) (hk : P.underlying k = some (.int .i64)) (n : Int)
  (hc : ∀ L w, LedO L w g (q.1.filter (fun p => p.1 != n), q.2) → Fine (fun b => Lu b ∨ b = g) wu L w → (∀ q, L q → Lu q ∨ wu.heap.size ≤ q) → (kk ()).ok P pin Q J L w) : (XT.sem (Builtin.delete_ #[t, k] ty #[.map (some g), .int .i64 n]) [] (Sh.tup []) kk).ok P pin Q J Lu wu := by
 refine ok_semm (fun L w hF hlt => ?_)
 have h := h.later hF
 obtain ⟨es, clock, hm⟩ := h.map
 obtain ⟨es', hr, hm'⟩ := hm.del (ty := ty) ht hk hs n
 have hne : ∀ b, b ≠ g → (setB w g (.map es' clock)).heap[b]? = w.heap[b]? := fun b hb => setB_other hb
 have hF1 : Fine (fun b => L b ∨ b = g) w L (setB w g (.map es' clock)) := ⟨rfl, rfl, rfl, by rw [setB_size]; exact Nat.le_refl _, fun b _ hn => hne b (fun e => hn (Or.inr e)), fun b hb => Or.inl (Or.inl hb)⟩
 refine ⟨(), _, hr, ⟨by rw [setB_size]; exact Nat.le_refl _, ⟨rfl, rfl, rfl⟩, fun b hb _ => hne b (fun e => h.vis (e ▸ hb))⟩, hc L _ ⟨h.obj.others (fun b hb e => by have := lp_blk.1 hb; omega) hF1, h.vis, es', clock, hm'⟩ ?_ hF.hid⟩
 refine ⟨hF.os, hF.tape, hF.output, by rw [setB_size]; exact hF.size, fun b hb hn => ?_, fun b hb => (hF.hid b hb).imp Or.inl id⟩
 rw [hne b (fun e => hn (Or.inr e))]
 exact hF.keep b hb (fun hl => hn (Or.inl hl))
end
theorem Chooses.step {w w1 : World} {g : Nat} {cb : Array Value} {out : List Pk} {holds : Pk → Bool} (h : Chooses w g cb out holds) (hb : Below w.heap.size w w1) : Chooses w1 g cb out holds :=
 fun p hp W hW => h p hp W (hb.trans (hW.mono hb.size))
abbrev A31 : Nat → LA := fun r => if r = 3 then ⟨[(13, false, [Lf.i .i64])], []⟩ else noA r
set_option maxHeartbeats 4000000 in
theorem f31_t (a0 : Option Addr) (g : Nat) (cb : Array Value) : tree Try.prog A31 noC Try.f31 [AV.v (.pointer a0), AV.v (.func (.func g) #[] cb)] [] =
  .call 39 ([AV.v (Value.pointer a0), AV.v (Value.func (Fn.func g) #[] cb)]) ([]) (Sh.one) ([Lf.sl]) ([]) (fun x0 =>
   .loop ([Lf.i .i64]) ((0, PUnit.unit)) 0 (fun x1 =>
    bif decide (x1.1 < ((x0.1.2.1 : Nat) : Int)) then (
     .need (decide (0 ≤ x1.1) && decide (x1.1 < ((x0.1.2.1 : Nat) : Int)) && Option.isSome x0.1.1) (
     .ld (Option.map (fun x => Addr.add x (Int.toNat x1.1 * 3)) x0.1.1) ([Lf.i .i64, Lf.i .i64, Lf.i .i64]) (fun x2 =>
      .need (Option.isSome a0) (
      .need (Option.isSome a0) (
      .ld (Option.map (fun x => Addr.add x 0) a0) ([Lf.m]) (fun x3 =>
       .sem (Builtin.delete_ #[56, 3] 0 #[Value.map x3.1, Value.int IntKind.i64 x2.1]) ([]) (Sh.tup []) (fun x4 =>
        .again 0 ([Lf.i .i64]) ((IntKind.i64.wrap (x1.1 + 1), PUnit.unit)))))))))
    else (
     .done (AV.v (Value.slice x0.1.1 x0.1.2.1 x0.1.2.2)) ([])))) := by kernel_rfl
def SetE (w : World) (g : Nat) (ys : List Pk) (q' : Led) (e : Ending) (w' : World) : Prop := ∃ (B : Option Addr) (d : Nat), e = .returned (.slice B ys.length d) ∧ Fine (lb g) w (lb g) w' ∧ LedO (fun _ => False) w' g q' ∧ OwnF w.heap.size (fun b => b < w.heap.size) w' 54 R36 B d ys
theorem need3 {i n : Int} {A : Option Addr} (h0 : 0 ≤ i) (h1 : i < n) (h : A.isSome = true) : (decide (0 ≤ i) && decide (i < n) && A.isSome) = true := by simp [h0, h1, h]
theorem getI_of {α : Type} {l : List α} {j : Nat} {x : α} (h : l[j]? = some x) : getI l (j : Int) = some x := by
 rw [getI_iff]; exact ⟨by omega, by simpa using h⟩
theorem strike_take {l ys : List Pk} {j : Nat} {p : Pk} (h : ys[j]? = some p) : (l.filter fun x => (ys.take j).all fun z => x.1 != z.1).filter (fun x => x.1 != p.1) = l.filter fun x => (ys.take (j + 1)).all fun z => x.1 != z.1 := by
 rw [List.filter_filter]
 apply List.filter_congr
 intro x _
 rw [List.take_add_one, h]
 simp [Bool.and_comm]
theorem lt_tri : ∀ {l : List Pk}, l.Pairwise (fun x y => x.1 < y.1) → ∀ {x y : Pk}, x ∈ l → y ∈ l → x = y ∨ x.1 < y.1 ∨ y.1 < x.1
 | a :: l, h, x, y, hx, hy => by
  obtain ⟨h1, h2⟩ := List.pairwise_cons.1 h
  rcases List.mem_cons.1 hx with hx' | hx'
  ·rcases List.mem_cons.1 hy with hy' | hy'
   ·exact Or.inl (hx'.trans hy'.symm)
   ·exact Or.inr (Or.inl (hx' ▸ h1 y hy'))
  ·rcases List.mem_cons.1 hy with hy' | hy'
   ·exact Or.inr (Or.inr (hy' ▸ h1 x hx'))
   ·exact lt_tri h2 hx' hy'
theorem strike_all {l : List Pk} (hs : l.Pairwise fun x y => x.1 < y.1) (f : Pk → Bool) : (l.filter fun x => (l.filter f).all fun z => x.1 != z.1) = l.filter fun p => !f p := by
 apply List.filter_congr
 intro x hx
 cases hf : f x with
 | true =>
  rw [Bool.not_true, List.all_eq_false]
  exact ⟨x, List.mem_filter.2 ⟨hx, hf⟩, by simp⟩
 | false =>
  rw [Bool.not_false, List.all_eq_true]
  intro z hz
  obtain ⟨hz1, hz2⟩ := List.mem_filter.1 hz
  have : x ≠ z := fun e => by rw [e, hz2] at hf; cases hf
  rcases lt_tri hs hx hz1 with h | h | h
  ·exact absurd h this
  ·simp; omega
  ·simp; omega
set_option maxHeartbeats 8000000 in
theorem settle_c (f : Nat) (cb : Array Value) (holds : Pk → Bool) (eg : ∀ args w, (callFunc f args).run Try.prog w = .ok (.enter f args) w) (g : Nat) (q : Led) (w : World) (hL : LedO (fun _ => False) w g q) (hG : LedG q) (hcl : Chooses w f cb q.1 holds) :
  Calls Try.prog 31 #[.pointer (lp g), .func (.func f) #[] cb] w (SetE w g (q.1.filter holds) (q.1.filter (fun p => !holds p), q.2)) := by
 refine enter0 (P := Try.prog) mixed A31 noC [AV.v (.pointer (lp g)), AV.v (.func (.func f) #[] cb)] Try.func31 (c := _) rfl rfl rfl (fun hF0 => ?_)
 rw [f31_t]
 refine ok_callm rfl (fun L1 w1 g1 lt1 => ?_)
 have h1 := hL.later g1
 obtain ⟨es, clock, hm⟩ := h1.map
 refine (list_c f cb holds eg (g + 1) g q.1 es clock w1 h1.cell hm hG.sorted hG.rng' hG.len (hcl.step g1.below)).mono ?_
 rintro e w2 ⟨B, d, rfl, hb2, hO2⟩
 refine ⟨((B, (q.1.filter holds).length, d), ()), rfl, hb2, fun g2 => ?_⟩
 try dsimp only
 obtain ⟨ys, hys⟩ : ∃ ys, ys = q.1.filter holds := ⟨_, rfl⟩
 rw [← hys] at hO2 ⊢
 have hsz : w.heap.size ≤ w1.heap.size := g1.size
 have hvis : ∀ b, w1.heap.size ≤ b → ¬ L1 b := fun b hb hl => by have := lt1 b hl; omega
 have hO3 : OwnF w.heap.size L1 w2 54 R36 B d ys := (OwnF.vis hO2 (fun b hb => hvis b (OwnF.fresh hO2 b hb))).down hsz
 have hl3 : LedO L1 w2 g q := hL.later g2
 have hB : ∀ b, blk (B, 0, 0) b → b ≠ g ∧ b ≠ g + 1 := fun b hb => by
  have h1 := Own.base hO3 hb
  have h2 := (hL.lt g (Or.inl rfl)).1
  have h3 := (hL.lt (g + 1) (Or.inr rfl)).1
  omega
 have hF2 : Fine (lb g) w L1 w2 := ⟨g2.os, g2.tape, g2.output, g2.size, fun b hb hn => g2.keep b hb (fun h => h), fun b hb => (g2.hid b hb).elim False.elim Or.inr⟩
 have hmax : ys.length ≤ 512 := by rw [hys]; exact Nat.le_trans (List.length_filter_le _ _) hG.len
 clear hO2 hb2 g2 hm h1
 obtain ⟨I, hI⟩ : ∃ I : Nat → Tup [Lf.i .i64] → (Nat → Prop) → World → Prop, I = (fun m y L w' => ∃ j : Nat, y = ((j : Int), ()) ∧ j + m = ys.length ∧ Fine (lb g) w L w' ∧ LedO L w' g (q.1.filter (fun x => (ys.take j).all fun z => x.1 != z.1), q.2) ∧ OwnF w.heap.size L w' 54 R36 B d ys) := ⟨_, rfl⟩
 refine ok_loop I ys.length (by
  rw [hI]
  refine ⟨0, rfl, by omega, hF2, ?_, hO3⟩
  rw [List.filter_eq_self.2 (fun x hx => by simp)]
  exact hl3) ?_
 intro m i L w4 hi
 rw [hI] at hi
 obtain ⟨j, rfl, hj, hF4, hl4, hO4⟩ := hi
 try dsimp only
 refine ok_if (fun hc => ?_) (fun hc => ?_)
 ·have hc : (j : Int) < (ys.length : Int) := of_decide_eq_true hc
  obtain ⟨m', rfl⟩ : ∃ m', m = m' + 1 := ⟨m - 1, by omega⟩
  obtain ⟨p, hp⟩ : ∃ p, ys[j]? = some p := ⟨_, List.getElem?_eq_getElem (by omega)⟩
  have hBs : B.isSome = true := hO4.sl.some (by have := (List.getElem?_eq_some_iff.1 hp).1; omega)
  refine ok_need (need3 (by omega) hc hBs) ?_
  refine ok_get (R := R36.row) hO4.sl (Fine.refl _ _) (getI_of hp) (by simp) (fun cs hcs => ⟨(p.1, p.2.1, p.2.2, ()), by rw [hcs]; rfl, ?_⟩)
  try dsimp only
  refine ok_need rfl (ok_need rfl ?_)
  refine ok_ob (R := RW58.row) 0 hl4.obj.sl (Fine.refl _ _) (fun cs hcs => ⟨some g, by rw [hcs]; rfl, ?_⟩)
  try dsimp only
  refine ok_del hl4 (hG.sorted.filter _) rfl rfl p.1 (fun L5 w5 hl5 hF5 hid5 => ?_)
  rw [strike_take hp] at hl5
  have hO5 := OwnF.others hO4 (B := fun b => b = g) (fun b hb e => (hB b hb).1 e) hF5
  have hF6 : Fine (lb g) w L5 w5 := Fine.own hF4 hF5 (fun b hb => Or.inl (Or.inl hb)) hid5
  refine ok_again (I := I) m' (Nat.lt_succ_self _) (fun L8 w8 he => ?_)
  rw [hI]
  exact ⟨j + 1, by rw [wrap_in ((j : Int) + 1) (by omega) (by omega)]; rfl, by omega, hF6.trans he.fine, hl5.later he.fine, hO5.later he.fine⟩
 ·have hc : ¬ (j : Int) < (ys.length : Int) := of_decide_eq_false hc
  have hje : j = ys.length := by omega
  subst hje
  rw [List.take_length, hys, strike_all hG.sorted] at hl4
  rw [hys] at hO4 ⊢
  intro ρ L' w' _ he _ _
  exact ⟨B, d, rfl, (hF4.ext he).with (fun b hb => Or.inl hb), (hl4.later he.fine).bare, (hO4.later he.fine).ret⟩
end Go.Proofs.Ytkchgcefmnbebaa.X
