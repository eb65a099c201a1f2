import Derived.Test.YtpdchohbmmfemaazRd1
import Derived.Test.YtpdchohbmmfemaazFg
import Derived.Test.YtpdchohbmmfemaazOf1
namespace Go.Proofs.Ytpdchohbmmfemaa.X
open Go Go.RowKit Go.Proofs.YtpdchohbmmfemaaW.Rx
set_option linter.unusedVariables false
set_option linter.unusedSimpArgs false
set_option maxRecDepth 10000
abbrev A7 : Nat → LA := fun r => if r = 4 then ⟨[(22, false, [Lf.i .i64])], []⟩ else if r = 7 then ⟨[(31, false, [Lf.i .i64])], []⟩ else if r = 12 then ⟨[(51, false, [Lf.i .i64])], []⟩ else noA r
set_option maxHeartbeats 4000000 in
theorem f7_t (A0 : Option Addr) (n0 c0 : Nat) : tree Try.prog A7 noC Try.f7 [AV.v (.slice A0 n0 c0)] [] =
  .sem (convert 23 9 (Value.slice A0 n0 c0)) ([Lf.s]) (Sh.one) (fun x0 =>
   .call 11 ([AV.v (Value.slice A0 n0 c0)]) ([]) (Sh.tup [(false, 1), (true, 2)]) ([Lf.sl, Lf.i .i64, Lf.i .i64]) ([]) (fun x1 =>
    .loop ([Lf.i .i64]) ((0, PUnit.unit)) 0 (fun x2 =>
     bif decide (x2.1 < ((x1.1.2.1 : Nat) : Int)) then (
      .need (decide (0 ≤ x2.1) && decide (x2.1 < ((x1.1.2.1 : Nat) : Int)) && Option.isSome x1.1.1) (
      .need (Option.isSome (Option.map (fun x => Addr.add x (Int.toNat x2.1 * 8)) x1.1.1)) (
      .ld (Option.map (fun x => Addr.add x 6) (Option.map (fun x => Addr.add x (Int.toNat x2.1 * 8)) x1.1.1)) ([Lf.sl]) (fun x3 =>
       .loop ([Lf.i .i64]) ((0, PUnit.unit)) 1 (fun x4 =>
        bif decide (x4.1 < ((x3.1.2.1 : Nat) : Int)) then (
         .need (decide (0 ≤ x2.1) && decide (x2.1 < ((x1.1.2.1 : Nat) : Int)) && Option.isSome x1.1.1) (
         .need (Option.isSome (Option.map (fun x => Addr.add x (Int.toNat x2.1 * 8)) x1.1.1)) (
         .ld (Option.map (fun x => Addr.add x 6) (Option.map (fun x => Addr.add x (Int.toNat x2.1 * 8)) x1.1.1)) ([Lf.sl]) (fun x5 =>
          .need (decide (0 ≤ x4.1) && decide (x4.1 < ((x5.1.2.1 : Nat) : Int)) && Option.isSome x5.1.1) (
          .ld (Option.map (fun x => Addr.add x (Int.toNat x4.1 * 1)) x5.1.1) ([Lf.i IntKind.u8]) (fun x6 =>
           .need (decide (0 ≤ x4.1) && decide (x4.1 < ((x5.1.2.1 : Nat) : Int)) && Option.isSome x5.1.1) (
           .sto (Option.map (fun x => Addr.add x (Int.toNat x4.1 * 1)) x5.1.1) ([AV.v (Value.int IntKind.u8 (IntKind.wrap IntKind.u8 ((BitVec.toNat (BitVec.ofInt 8 x6.1 ^^^ BitVec.ofInt 8 255) : Nat) : Int)))]) ([]) (
           .again 1 ([Lf.i .i64]) ((IntKind.i64.wrap (x4.1 + 1), PUnit.unit))))))))))
        else (
         .need (decide (0 ≤ x2.1) && decide (x2.1 < ((x1.1.2.1 : Nat) : Int)) && Option.isSome x1.1.1) (
         .need (Option.isSome (Option.map (fun x => Addr.add x (Int.toNat x2.1 * 8)) x1.1.1)) (
         .ld (Option.map (fun x => Addr.add x 7) (Option.map (fun x => Addr.add x (Int.toNat x2.1 * 8)) x1.1.1)) ([Lf.sl]) (fun x5 =>
          .loop ([Lf.i .i64]) ((0, PUnit.unit)) 1 (fun x6 =>
           bif decide (x6.1 < ((x5.1.2.1 : Nat) : Int)) then (
            .need (decide (0 ≤ x2.1) && decide (x2.1 < ((x1.1.2.1 : Nat) : Int)) && Option.isSome x1.1.1) (
            .need (Option.isSome (Option.map (fun x => Addr.add x (Int.toNat x2.1 * 8)) x1.1.1)) (
            .ld (Option.map (fun x => Addr.add x 7) (Option.map (fun x => Addr.add x (Int.toNat x2.1 * 8)) x1.1.1)) ([Lf.sl]) (fun x7 =>
             .need (decide (0 ≤ x6.1) && decide (x6.1 < ((x7.1.2.1 : Nat) : Int)) && Option.isSome x7.1.1) (
             .sto (Option.map (fun x => Addr.add x (Int.toNat x6.1 * 2)) x7.1.1) ([AV.v (.int .i64 (-1)), AV.v (.int .i64 0)]) ([]) (
             .again 1 ([Lf.i .i64]) ((IntKind.i64.wrap (x6.1 + 1), PUnit.unit))))))))
           else (
            .again 0 ([Lf.i .i64]) ((IntKind.i64.wrap (x2.1 + 1), PUnit.unit)))))))))))))
     else (
      .call 11 ([AV.v (Value.slice A0 n0 c0)]) ([]) (Sh.tup [(false, 1), (true, 2)]) ([Lf.sl, Lf.i .i64, Lf.i .i64]) ([]) (fun x3 =>
       .sem (convert 9 23 (Value.string x0.1)) ([Lf.sl]) (Sh.one) (fun x4 =>
        .call 14 ([AV.v (Value.slice x4.1.1 x4.1.2.1 x4.1.2.2)]) ([]) (Sh.tup [(false, 1), (true, 2)]) ([Lf.sl, Lf.i .i64, Lf.i .i64]) ([]) (fun x5 =>
         .sem (convert 23 9 (Value.slice A0 n0 c0)) ([Lf.s]) (Sh.one) (fun x6 =>
          bif ByteArray.toList x6.1 == ByteArray.toList x0.1 then (
           .call 12 ([AV.v (Value.slice x3.1.1 x3.1.2.1 x3.1.2.2), AV.v (Value.slice x5.1.1 x5.1.2.1 x5.1.2.2)]) ([]) (Sh.one) ([Lf.b]) ([]) (fun x7 =>
            bif x7.1 then (
             bif x3.2.1 == x5.2.1 && (x3.2.2.1 == x5.2.2.1 && true) then (
              .call 10 ([]) ([]) (Sh.one) ([Lf.b]) ([]) (fun x8 =>
               bif x8.1 then (
                .done (AV.v (Value.bool true)) ([]))
               else (
                .done (AV.v (Value.bool false)) ([]))))
             else (
              .done (AV.v (Value.bool false)) ([])))
            else (
             .done (AV.v (Value.bool false)) ([]))))
          else (
           .done (AV.v (Value.bool false)) ([])))))))))) := by kernel_rfl
theorem pw_mem {α : Type} {R : α → α → Prop} (hs : ∀ x y, R x y → R y x) : ∀ {l : List α}, l.Pairwise R → ∀ {x y : α}, x ∈ l → y ∈ l → x = y ∨ R x y
 | [], _, x, y, hx, _ => by cases hx
 | a :: l, h, x, y, hx, hy => by
  obtain ⟨h1, h2⟩ := List.pairwise_cons.1 h
  rcases List.mem_cons.1 hx with hx' | hx'
  ·rcases List.mem_cons.1 hy with hy' | hy'
   ·exact Or.inl (hx'.trans hy'.symm)
   ·exact Or.inr (hx' ▸ h1 y hy')
  ·rcases List.mem_cons.1 hy with hy' | hy'
   ·exact Or.inr (hs _ _ (hy' ▸ h1 x hx'))
   ·exact pw_mem hs h2 hx' hy'
theorem Sep2.symm {y z : FrR} (h : Sep2 y z) : Sep2 z y := ⟨h.1.symm, h.2.2.1.symm, h.2.1.symm, h.2.2.2.symm⟩
theorem Sep.two {ys : List FrR} (h : Sep ys) {y z : FrR} (hy : y ∈ ys) (hz : z ∈ ys) : y = z ∨ Sep2 y z := pw_mem (fun _ _ => Sep2.symm) h.2 hy hz
structure Ow (w0 : World) (B : Option Addr) (d : Nat) (ys : List FrR) (L : Nat → Prop) (w : World) : Prop where
 hF : Fine (fun _ => False) w0 L w
 hO : OwnF w0.heap.size L w 36 RF B d ys
 hD : ∀ y ∈ ys, ∃ xs : List Int, xs.length = y.2.2.2.2.2.2.1.2.1 ∧ OwnF w0.heap.size L w 5 R23 y.2.2.2.2.2.2.1.1 y.2.2.2.2.2.2.1.2.2 xs
 hZ : ∀ y ∈ ys, ∃ zs : List (Int × Int), zs.length = y.2.2.2.2.2.2.2.2.1 ∧ OwnF w0.heap.size L w 42 R34 y.2.2.2.2.2.2.2.1 y.2.2.2.2.2.2.2.2.2 zs
section
variable {w0 w w' : World} {B : Option Addr} {d : Nat} {ys : List FrR} {L L' : Nat → Prop}
theorem Ow.step (h : Ow w0 B d ys L w) (g : Fine L w L' w') : Ow w0 B d ys L' w' :=
 ⟨h.hF.trans g, h.hO.later g, fun y hy => by obtain ⟨xs, h1, h2⟩ := h.hD y hy; exact ⟨xs, h1, h2.later g⟩, fun y hy => by obtain ⟨xs, h1, h2⟩ := h.hZ y hy; exact ⟨xs, h1, h2.later g⟩⟩
theorem Ow.putD (h : Ow w0 B d ys L w) (hs : Sep ys) {y : FrR} (hy : y ∈ ys) (g : Fine (fun b => L b ∨ blk (y.2.2.2.2.2.2.1.1, 0, 0) b) w L' w') (hid : ∀ q, L' q → L q ∨ w.heap.size ≤ q) {xs : List Int} (hl : xs.length = y.2.2.2.2.2.2.1.2.1) (ho : OwnF w0.heap.size L' w' 5 R23 y.2.2.2.2.2.2.1.1 y.2.2.2.2.2.2.1.2.2 xs) : Ow w0 B d ys L' w' := by
 obtain ⟨xs0, _, ho0⟩ := h.hD y hy
 refine ⟨Fine.own h.hF g (fun b hb => Or.inr (Own.base ho0 hb)) hid, OwnF.other h.hO (own_types h.hO ho0 (by decide)) g, fun z hz => ?_, fun z hz => ?_⟩
 ·rcases hs.two hz hy with rfl | hd
  ·exact ⟨xs, hl, ho⟩
  ·obtain ⟨xs1, h1, h2⟩ := h.hD z hz
   exact ⟨xs1, h1, OwnF.other h2 hd.1 g⟩
 ·obtain ⟨xs1, h1, h2⟩ := h.hZ z hz
  exact ⟨xs1, h1, OwnF.other h2 (own_types h2 ho0 (by decide)) g⟩
theorem Ow.putZ (h : Ow w0 B d ys L w) (hs : Sep ys) {y : FrR} (hy : y ∈ ys) (g : Fine (fun b => L b ∨ blk (y.2.2.2.2.2.2.2.1, 0, 0) b) w L' w') (hid : ∀ q, L' q → L q ∨ w.heap.size ≤ q) {zs : List (Int × Int)} (hl : zs.length = y.2.2.2.2.2.2.2.2.1) (ho : OwnF w0.heap.size L' w' 42 R34 y.2.2.2.2.2.2.2.1 y.2.2.2.2.2.2.2.2.2 zs) : Ow w0 B d ys L' w' := by
 obtain ⟨xs0, _, ho0⟩ := h.hZ y hy
 refine ⟨Fine.own h.hF g (fun b hb => Or.inr (Own.base ho0 hb)) hid, OwnF.other h.hO (own_types h.hO ho0 (by decide)) g, fun z hz => ?_, fun z hz => ?_⟩
 ·obtain ⟨xs1, h1, h2⟩ := h.hD z hz
  exact ⟨xs1, h1, OwnF.other h2 (own_types h2 ho0 (by decide)) g⟩
 ·rcases hs.two hz hy with rfl | hd
  ·exact ⟨zs, hl, ho⟩
  ·obtain ⟨xs1, h1, h2⟩ := h.hZ z hz
   exact ⟨xs1, h1, OwnF.other h2 hd.2.2.2 g⟩
theorem Nests.ow : ∀ {xs : List Fr} {ys : List FrR} {base : Nat} {K : Nat → Prop}, Nests base K w xs ys → ∀ y ∈ ys, (∃ xs : List Int, xs.length = y.2.2.2.2.2.2.1.2.1 ∧ OwnF base K w 5 R23 y.2.2.2.2.2.2.1.1 y.2.2.2.2.2.2.1.2.2 xs) ∧ ∃ zs : List (Int × Int), zs.length = y.2.2.2.2.2.2.2.2.1 ∧ OwnF base K w 42 R34 y.2.2.2.2.2.2.2.1 y.2.2.2.2.2.2.2.2.2 zs
 | [], [], _, _, _, y, hy => by cases hy
 | x :: xs, z :: ys, _, _, ⟨⟨A6, c6, A7, c7, e, h1, h2⟩, h⟩, y, hy => by
  rcases List.mem_cons.1 hy with rfl | hy
  ·rw [e]
   exact ⟨⟨_, rfl, h1⟩, ⟨_, rfl, h2⟩⟩
  ·exact Nests.ow h y hy
 | [], _ :: _, _, _, h, _, _ => h.elim
 | _ :: _, [], _, _, h, _, _ => h.elim
end
end Go.Proofs.Ytpdchohbmmfemaa.X
namespace Go.Proofs.Ytpdchohbmmfemaa.X
open Go Go.RowKit Go.Proofs.YtpdchohbmmfemaaW.Rx
set_option linter.unusedVariables false
set_option linter.unusedSimpArgs false
set_option maxRecDepth 10000
def law04_FramesOwn.F (k : Nat) (l0 : List Int) : Option Bool :=
 (frames_Decode.F k l0).bind fun x => (ref04_Decode.F k (numsOf (strOfNums l0))).bind fun y => (ref04_Same.F k x.1 y.1).bind fun s =>
  bif s then (bif x.2.1 == y.2.1 && (x.2.2 == y.2.2 && true) then (law04_alive.F k).bind fun a => some a else some false) else some false
theorem isSome_map {A : Option Addr} {f : Addr → Addr} (h : A.isSome = true) : (A.map f).isSome = true := by cases A <;> simp_all
theorem need3 {i n : Int} {A : Option Addr} (h0 : 0 ≤ i) (h1 : i < n) (h : A.isSome = true) : (decide (0 ≤ i) && decide (i < n) && A.isSome) = true := by simp [h0, h1, h]
theorem getI_of {α : Type} {l : List α} {j : Nat} {x : α} (h : l[j]? = some x) : getI l (j : Int) = some x := by
 rw [getI_iff]; exact ⟨by omega, by simpa using h⟩
theorem str_size (l : List Int) : (strOfNums l).size = l.length := by
 show (strOfNums l).data.size = _
 simp [strOfNums]
set_option maxHeartbeats 8000000 in
theorem law04_FramesOwn.c (k : Nat) (A0 : Option Addr) (n0 c0 : Nat) (l0 : List Int) (r : Bool) (h : law04_FramesOwn.F k l0 = some r) (hn0 : n0 = l0.length) (w : World) (hS0 : SlR R23.row (fun _ => False) w A0 c0 l0) : Calls Try.prog 7 (AV.gs id [AV.v (Value.slice A0 n0 c0)]).toArray w fun e w' => e = .returned (((Sh.one : Sh).av (vs [Lf.b] (r, ()))).g id) ∧ Below w.heap.size w w' := by
 subst hn0
 unfold law04_FramesOwn.F at h
 obtain ⟨x, hx, h⟩ := bse h
 obtain ⟨y, hy, h⟩ := bse h
 obtain ⟨s, hs, h⟩ := bse h
 refine enter0 (P := Try.prog) mixed A7 noC [AV.v (.slice A0 l0.length c0)] Try.func7 (c := _) rfl rfl rfl (fun hF0 => ?_)
 rw [f7_t]
 refine ok_str (R := R23) (fun _ => rfl) rfl rfl rfl rfl hS0 (fun L1 w1 g1 => ?_)
 have hF1 := hF0.trans g1
 have hS1 := hS0.later g1
 try dsimp only
 refine ok_callm rfl (fun L2 w2 g2 lt2 => ?_)
 have hF2 := hF1.trans g2
 have hS2 := hS1.later g2
 refine (frames_Decode.full k A0 c0 l0 x hx w2 (hS2.mono (fun _ h => h.elim))).mono ?_
 rintro e w3 ⟨B, d, ys, rfl, hb3, hO3, hN3, hsep⟩
 refine ⟨((B, x.1.length, d), x.2.1, x.2.2, ()), rfl, hb3, fun g3 => ?_⟩
 try dsimp only
 have hyl : ys.length = x.1.length := hN3.length
 have hF3 : Fine (fun _ => False) w L2 w3 := hF2.step hb3
 have hsz : w.heap.size ≤ w2.heap.size := hF2.size
 have hvis : ∀ b, w2.heap.size ≤ b → ¬ L2 b := fun b hb hl => by have := lt2 b hl; omega
 have hL2 : ∀ b, L2 b → b < w2.heap.size := lt2
 have D3 : Ow w B d ys L2 w3 := by
  refine ⟨hF3, (OwnF.vis hO3 (fun b hb => hvis b (OwnF.fresh hO3 b hb))).down hsz, fun z hz => ?_, fun z hz => ?_⟩
  ·obtain ⟨⟨xs, h1, h2⟩, _⟩ := hN3.ow z hz
   exact ⟨xs, h1, (OwnF.vis h2 (fun b hb => hvis b (OwnF.fresh h2 b hb))).down hsz⟩
  ·obtain ⟨_, ⟨xs, h1, h2⟩⟩ := hN3.ow z hz
   exact ⟨xs, h1, (OwnF.vis h2 (fun b hb => hvis b (OwnF.fresh h2 b hb))).down hsz⟩
 rw [← hyl]
 have hmax : ys.length ≤ 9223372036854775807 := hO3.sl.2.2
 clear hb3 hO3 hN3 hF3 g3
 obtain ⟨I, hI⟩ : ∃ I : Nat → Tup [Lf.i .i64] → (Nat → Prop) → World → Prop, I = (fun m y L w' => ∃ j : Nat, y = ((j : Int), ()) ∧ j + m = ys.length ∧ Ow w B d ys L w') := ⟨_, rfl⟩
 refine ok_loop I ys.length (by rw [hI]; exact ⟨0, rfl, by omega, D3⟩) ?_
 clear D3
 intro m i L w4 hi
 rw [hI] at hi
 obtain ⟨j, rfl, hj, D⟩ := hi
 try dsimp only
 refine ok_if (fun hc => ?_) (fun hc => ?_)
 ·have hc : (j : Int) < (ys.length : Int) := of_decide_eq_true hc
  obtain ⟨m', rfl⟩ : ∃ m', m = m' + 1 := ⟨m - 1, by omega⟩
  obtain ⟨z, hz⟩ : ∃ z, ys[j]? = some z := ⟨_, List.getElem?_eq_getElem (by omega)⟩
  have hzm : z ∈ ys := List.mem_of_getElem? hz
  have hB : B.isSome = true := D.hO.sl.some (by have := (List.getElem?_eq_some_iff.1 hz).1; omega)
  have hn1 : (decide (0 ≤ (j : Int)) && decide ((j : Int) < (ys.length : Int)) && B.isSome) = true := need3 (by omega) hc hB
  refine ok_need hn1 (ok_need (isSome_map hB) ?_)
  refine ok_getf (R := RF.row) 6 D.hO.sl (Fine.refl _ _) (getI_of hz) (fun cs hcs => ⟨z.2.2.2.2.2.2.1, by rw [hcs]; rfl, ?_⟩)
  try dsimp only
  obtain ⟨I1, hI1⟩ : ∃ I1 : Nat → Tup [Lf.i .i64] → (Nat → Prop) → World → Prop, I1 = (fun m y L w' => ∃ j : Nat, y = ((j : Int), ()) ∧ j + m = z.2.2.2.2.2.2.1.2.1 ∧ Ow w B d ys L w') := ⟨_, rfl⟩
  refine ok_loop I1 z.2.2.2.2.2.2.1.2.1 (by rw [hI1]; exact ⟨0, rfl, by omega, D⟩) ?_
  clear D
  intro m1 i1 L5 w5 hi1
  rw [hI1] at hi1
  obtain ⟨j1, rfl, hj1, D⟩ := hi1
  try dsimp only
  refine ok_if (fun hc1 => ?_) (fun hc1 => ?_)
  ·have hc1 : (j1 : Int) < (z.2.2.2.2.2.2.1.2.1 : Int) := of_decide_eq_true hc1
   obtain ⟨m1', rfl⟩ : ∃ m', m1 = m' + 1 := ⟨m1 - 1, by omega⟩
   refine ok_need hn1 (ok_need (isSome_map hB) ?_)
   refine ok_getf (R := RF.row) 6 D.hO.sl (Fine.refl _ _) (getI_of hz) (fun cs hcs => ⟨z.2.2.2.2.2.2.1, by rw [hcs]; rfl, ?_⟩)
   try dsimp only
   obtain ⟨xs, hxl, hxo⟩ := D.hD z hzm
   obtain ⟨v, hv⟩ : ∃ v, xs[j1]? = some v := ⟨_, List.getElem?_eq_getElem (by omega)⟩
   have hA : z.2.2.2.2.2.2.1.1.isSome = true := hxo.sl.some (by have := (List.getElem?_eq_some_iff.1 hv).1; omega)
   have hn2 : (decide (0 ≤ (j1 : Int)) && decide ((j1 : Int) < (z.2.2.2.2.2.2.1.2.1 : Int)) && z.2.2.2.2.2.2.1.1.isSome) = true := need3 (by omega) hc1 hA
   have hxm : xs.length ≤ 9223372036854775807 := hxo.sl.2.2
   refine ok_need hn2 ?_
   refine ok_get (R := R23.row) hxo.sl (Fine.refl _ _) (getI_of hv) (by simp) (fun cs hcs => ⟨(v, ()), by rw [hcs]; rfl, ?_⟩)
   try dsimp only
   refine ok_need hn2 ?_
   have ea : Option.map (fun x => Addr.add x (Int.toNat (j1 : Int) * 1)) z.2.2.2.2.2.2.1.1 = ((z.2.2.2.2.2.2.1.1.map (fun a => a.add (j1 * R23.n))).map (fun a => a.add 0)) := by
    cases z.2.2.2.2.2.2.1.1 <;> rfl
   rw [ea]
   obtain ⟨v', hv'⟩ : ∃ v', v' = IntKind.wrap IntKind.u8 ((BitVec.toNat (BitVec.ofInt 8 v ^^^ BitVec.ofInt 8 255) : Nat) : Int) := ⟨_, rfl⟩
   rw [← hv']
   refine ok_putF (R := R23) (x' := v') (vs := [Value.int IntKind.u8 v']) j1 0 hxo hv (Nat.le_refl _) rfl (fun _ => rfl) (fun L6 w6 hO6 g6 hid6 => ?_)
   have D6 := D.putD hsep hzm g6 hid6 (by rw [List.length_set]; exact hxl) hO6
   refine ok_again (I := I1) m1' (Nat.lt_succ_self _) (fun L7 w7 he => ?_)
   rw [hI1]
   exact ⟨j1 + 1, by rw [wrap_in ((j1 : Int) + 1) (by omega) (by omega)]; rfl, by omega, D6.step he.fine⟩
  ·refine ok_need hn1 (ok_need (isSome_map hB) ?_)
   refine ok_getf (R := RF.row) 7 D.hO.sl (Fine.refl _ _) (getI_of hz) (fun cs hcs => ⟨z.2.2.2.2.2.2.2, by rw [hcs]; rfl, ?_⟩)
   try dsimp only
   obtain ⟨I2, hI2⟩ : ∃ I2 : Nat → Tup [Lf.i .i64] → (Nat → Prop) → World → Prop, I2 = (fun m y L w' => ∃ j : Nat, y = ((j : Int), ()) ∧ j + m = z.2.2.2.2.2.2.2.2.1 ∧ Ow w B d ys L w') := ⟨_, rfl⟩
   refine ok_loop I2 z.2.2.2.2.2.2.2.2.1 (by rw [hI2]; exact ⟨0, rfl, by omega, D⟩) ?_
   clear D
   intro m2 i2 L6 w6 hi2
   rw [hI2] at hi2
   obtain ⟨j2, rfl, hj2, D⟩ := hi2
   try dsimp only
   refine ok_if (fun hc2 => ?_) (fun hc2 => ?_)
   ·have hc2 : (j2 : Int) < (z.2.2.2.2.2.2.2.2.1 : Int) := of_decide_eq_true hc2
    obtain ⟨m2', rfl⟩ : ∃ m', m2 = m' + 1 := ⟨m2 - 1, by omega⟩
    refine ok_need hn1 (ok_need (isSome_map hB) ?_)
    refine ok_getf (R := RF.row) 7 D.hO.sl (Fine.refl _ _) (getI_of hz) (fun cs hcs => ⟨z.2.2.2.2.2.2.2, by rw [hcs]; rfl, ?_⟩)
    try dsimp only
    obtain ⟨xs, hxl, hxo⟩ := D.hZ z hzm
    obtain ⟨v, hv⟩ : ∃ v, xs[j2]? = some v := ⟨_, List.getElem?_eq_getElem (by omega)⟩
    have hA : z.2.2.2.2.2.2.2.1.isSome = true := hxo.sl.some (by have := (List.getElem?_eq_some_iff.1 hv).1; omega)
    have hn2 : (decide (0 ≤ (j2 : Int)) && decide ((j2 : Int) < (z.2.2.2.2.2.2.2.2.1 : Int)) && z.2.2.2.2.2.2.2.1.isSome) = true := need3 (by omega) hc2 hA
    have hxm : xs.length ≤ 9223372036854775807 := hxo.sl.2.2
    refine ok_need hn2 ?_
    have ea : Option.map (fun x => Addr.add x (Int.toNat (j2 : Int) * 2)) z.2.2.2.2.2.2.2.1 = ((z.2.2.2.2.2.2.2.1.map (fun a => a.add (j2 * R34.n))).map (fun a => a.add 0)) := by
     cases z.2.2.2.2.2.2.2.1 <;> rfl
    rw [ea]
    refine ok_putF (R := R34) (x' := (-1, 0)) (vs := [Value.int IntKind.i64 (-1), Value.int IntKind.i64 0]) j2 0 hxo hv (Nat.le_refl _) rfl (fun _ => rfl) (fun L7 w7 hO7 g7 hid7 => ?_)
    have D7 := D.putZ hsep hzm g7 hid7 (by rw [List.length_set]; exact hxl) hO7
    refine ok_again (I := I2) m2' (Nat.lt_succ_self _) (fun L8 w8 he => ?_)
    rw [hI2]
    exact ⟨j2 + 1, by rw [wrap_in ((j2 : Int) + 1) (by omega) (by omega)]; rfl, by omega, D7.step he.fine⟩
   ·refine ok_up (ok_up ?_ (by decide)) (by decide)
    refine ok_again (I := I) m' (Nat.lt_succ_self _) (fun L8 w8 he => ?_)
    rw [hI]
    exact ⟨j + 1, by rw [wrap_in ((j : Int) + 1) (by omega) (by omega)]; rfl, by omega, D.step he.fine⟩
 ·have hS4 := hS0.later D.hF
  refine ok_callm rfl (fun L5 w5 g5 lt5 => ?_)
  refine (frames_Decode.c k A0 l0.length c0 l0 x hx rfl w5 ((hS4.later g5).mono (fun _ h => h.elim))).mono ?_
  rintro e w6 ⟨B6, d6, rfl, hb6, hS6⟩
  refine ⟨((B6, x.1.length, d6), x.2.1, x.2.2, ()), rfl, hb6, fun g6 => ?_⟩
  try dsimp only
  have hF6 := D.hF.trans g6
  have hS6 := hS6.mono (L' := L5) (fun b hb => lt5 b hb)
  refine ok_bytes (R := R23) (fun _ => rfl) rfl rfl rfl (by rw [str_size]; exact hS0.2.2) (fun A8 c8 L8 w8 hS8 g8 => ?_)
  try dsimp only
  have hF8 := hF6.trans g8
  have hS68 := hS6.later g8
  refine ok_callm rfl (fun L9 w9 g9 lt9 => ?_)
  refine (ref04_Decode.c k A8 _ c8 _ y hy rfl w9 ((hS8.later g9).mono (fun _ h => h.elim))).mono ?_
  rintro e w10 ⟨B10, d10, rfl, hb10, hS10⟩
  refine ⟨((B10, y.1.length, d10), y.2.1, y.2.2, ()), rfl, hb10, fun g10 => ?_⟩
  try dsimp only
  have hF10 := hF8.trans g10
  have hS10 := hS10.mono (L' := L9) (fun b hb => lt9 b hb)
  have hS610 := hS68.later g10
  refine ok_str (R := R23) (fun _ => rfl) rfl rfl rfl rfl (hS0.later hF10) (fun L11 w11 g11 => ?_)
  try dsimp only
  have hF11 := hF10.trans g11
  rw [show ((strOfNums l0).toList == (strOfNums l0).toList) = true from beq_self_eq_true _]
  refine ok_callq (s, ()) (Fine.refl _ _) rfl (fun L w g => ref04_Same.c k B6 _ d6 x.1 B10 _ d10 y.1 s hs rfl rfl w (((hS610.later g11).later g).mono (fun _ h => h.elim)) (((hS10.later g11).later g).mono (fun _ h => h.elim))) (fun L12 w12 g12 => ?_)
  try dsimp only
  have hF12 := hF11.trans g12
  refine ok_if (fun h1 => ?_) (fun h1 => ?_)
  ·have h := bif_t h h1
   refine ok_if (fun h2 => ?_) (fun h2 => ?_)
   ·have h := bif_t h h2
    obtain ⟨a, ha, h⟩ := bse h
    obtain rfl := Option.some.inj h
    refine ok_callq (a, ()) (Fine.refl _ _) rfl (fun L w g => law04_alive.c k a ha w) (fun L13 w13 g13 => ?_)
    try dsimp only
    have hF13 := hF12.trans g13
    refine ok_if (fun h3 => ?_) (fun h3 => ?_)
    ·try dsimp only at h3
     subst h3
     exact ok_done hF13 rfl rfl
    ·try dsimp only at h3
     subst h3
     exact ok_done hF13 rfl rfl
   ·have h := bif_f h h2
    obtain rfl := Option.some.inj h
    exact ok_done hF12 rfl rfl
  ·have h := bif_f h h1
   obtain rfl := Option.some.inj h
   exact ok_done hF12 rfl rfl
end Go.Proofs.Ytpdchohbmmfemaa.X
