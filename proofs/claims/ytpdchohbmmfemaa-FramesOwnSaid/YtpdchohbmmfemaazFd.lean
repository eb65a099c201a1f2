import Derived.Test.YtpdchohbmmfemaazRxU
import Derived.Test.YtpdchohbmmfemaazRxSeat
import Derived.Test.YtpdchohbmmfemaaProg
import Derived.Test.YtpdchohbmmfemaazFc
namespace Go.Proofs.Ytpdchohbmmfemaa.X
open Go Go.RowKit Go.Proofs.YtpdchohbmmfemaaW.Rx
set_option linter.unusedVariables false
set_option linter.unusedSimpArgs false
set_option maxRecDepth 10000
def slices_Index_int_int.s0 (k : Nat) (a1 : Int) (l0 : List Int) : Int → Option (Sum Int Int) := fun v0_0 => bif decide (v0_0 < ((l0.length : Nat) : Int)) then ((getI l0 v0_0).bind fun r3 => bif a1 == r3 then (some (.inr v0_0)) else (some (.inl (IntKind.i64.wrap (v0_0 + 1))))) else (some (.inr ((-1))))
def slices_Index_int_int.F (k : Nat) (l0 : List Int) (a1 : Int) : Option Int := iter (slices_Index_int_int.s0 k a1 l0) k 0
abbrev slices_Index_int_int.A : Nat → LA := fun r => if r = 2 then ⟨[(8, false, [Lf.i .i64])], []⟩ else ⟨[], []⟩
set_option maxHeartbeats 4000000 in
theorem slices_Index_int_int.t (A0 : Option Addr) (n0 c0 : Nat) (a1 : Int) : tree Try.prog slices_Index_int_int.A noC Try.f72 [AV.v (Value.slice A0 n0 c0), AV.v (.int .i64 a1)] [] =
  .loop ([Lf.i .i64]) ((0, PUnit.unit)) 0 (fun x0 =>
   bif decide (x0.1 < ((n0 : Nat) : Int)) then (
    .need (decide (0 ≤ x0.1) && decide (x0.1 < ((n0 : Nat) : Int)) && Option.isSome A0) (
    .ld (Option.map (fun x => Addr.add x (Int.toNat x0.1 * 1)) A0) ([Lf.i .i64]) (fun x1 =>
     bif a1 == x1.1 then (
      .done (AV.v (.int .i64 x0.1)) ([]))
     else (
      .again 0 ([Lf.i .i64]) ((IntKind.i64.wrap (x0.1 + 1), PUnit.unit))))))
   else (
    .done (AV.v (.int .i64 (-1))) ([]))) := by kernel_rfl
set_option maxHeartbeats 4000000 in
theorem slices_Index_int_int.c (k : Nat) (A0 : Option Addr) (n0 c0 : Nat) (l0 : List Int) (a1 : Int) (r : Int) (h : slices_Index_int_int.F k l0 a1 = some r) (hn0 : n0 = l0.length) (w : World) (hS0 : SlR R76.row (fun _ => False) w A0 c0 l0) : Calls Try.prog 72 (AV.gs id [AV.v (Value.slice A0 n0 c0), AV.v (.int .i64 a1)]).toArray w fun e w' => e = .returned (((Sh.one : Sh).av (vs [Lf.i .i64] (r, ()))).g id) ∧ Below w.heap.size w w' := by
 subst hn0
 refine enter0 mixed slices_Index_int_int.A noC [AV.v (Value.slice A0 l0.length c0), AV.v (.int .i64 a1)] Try.func72 rfl rfl rfl (fun hF => ?_)
 rw [slices_Index_int_int.t]
 unfold slices_Index_int_int.F at h
 try dsimp only at h
 obtain ⟨I0, hI0⟩ : ∃ I : Nat → Tup [Lf.i .i64] → (Nat → Prop) → World → Prop, I = (fun m_ y L w' => ∃ (v0_0 : Int), y = (v0_0, ()) ∧ iter (slices_Index_int_int.s0 k a1 l0) m_ v0_0 = some r ∧ Fine (fun _ => False) w L w') := ⟨_, rfl⟩
 refine ok_loop I0 k (by rw [hI0]; exact ⟨_, rfl, h, hF⟩) ?_
 clear h
 intro m_ y L0 w0 hy
 rw [hI0] at hy
 obtain ⟨v0_0, rfl, h, hF⟩ := hy
 obtain ⟨m0, o0, rfl, h, hl0, hr_0⟩ := iter_some h
 unfold slices_Index_int_int.s0 at h
 try dsimp only at h
 try dsimp only
 refine ok_if (fun hc2 => ?_) (fun hc2 => ?_)
 ·have h := bif_t h hc2
  obtain ⟨r3, hr4, h⟩ := bse h
  refine ok_need (getI_need (hS0.later hF) hr4) ?_
  refine ok_get hS0 hF hr4 (by simp) (fun cs hcs => ⟨(r3, ()), hcs.symm, ?_⟩)
  try dsimp only
  refine ok_if (fun hc5 => ?_) (fun hc5 => ?_)
  ·have h := bif_t h hc5
   obtain rfl := Option.some.inj h
   obtain rfl := hr_0 _ rfl
   intro ρ L w' _ he _ _
   exact ⟨rfl, (hF.ext he).below⟩
  ·have h := bif_f h hc5
   obtain rfl := Option.some.inj h
   have h := hl0 _ rfl
   exact ok_again (I := I0) m0 (Nat.lt_succ_self _) (fun L w' he => by rw [hI0]; exact ⟨_, rfl, h, hF.trans he.fine⟩)
 ·have h := bif_f h hc2
  obtain rfl := Option.some.inj h
  obtain rfl := hr_0 _ rfl
  intro ρ L w' _ he _ _
  exact ⟨rfl, (hF.ext he).below⟩
def RevAt73 {α : Type} (xs ys : List α) (i : Nat) : Prop := ys.length = xs.length ∧ ∀ k, k < xs.length → ys[k]? = if k < i ∨ xs.length - 1 - i < k then xs[xs.length - 1 - k]? else xs[k]?
theorem RevAt73.step {α : Type} {xs ys : List α} {i : Nat} {a b : α} (h : RevAt73 xs ys i) (hi : i < xs.length - 1 - i) (ha : ys[i]? = some a) (hb : ys[xs.length - 1 - i]? = some b) : RevAt73 xs ((ys.set i b).set (xs.length - 1 - i) a) (i + 1) := by
 obtain ⟨h1, h2⟩ := h
 refine ⟨by simp [h1], fun k hk => ?_⟩
 rw [List.getElem?_set, List.length_set, List.getElem?_set]
 have ea := h2 i (by omega)
 rw [if_neg (by omega), ha] at ea
 have eb := h2 (xs.length - 1 - i) (by omega)
 rw [if_neg (by omega), hb] at eb
 have ek := h2 k hk
 by_cases k1 : xs.length - 1 - i = k
 ·subst k1
  rw [if_pos rfl, if_pos (by omega), if_pos (by omega), show xs.length - 1 - (xs.length - 1 - i) = i by omega]
  exact ea
 ·rw [if_neg k1]
  by_cases k2 : i = k
  ·subst k2
   rw [if_pos rfl, if_pos (by omega), if_pos (by omega)]
   exact eb
  ·rw [if_neg k2, ek]
   by_cases k3 : k < i ∨ xs.length - 1 - i < k
   ·rw [if_pos k3, if_pos (by omega)]
   ·rw [if_neg k3, if_neg (by omega)]
theorem RevAt73.fin {α : Type} {xs ys : List α} {i : Nat} (h : RevAt73 xs ys i) (hi : xs.length - 1 - i ≤ i) : ys = xs.reverse := by
 obtain ⟨h1, h2⟩ := h
 apply List.ext_getElem?
 intro k
 by_cases hk : k < xs.length
 ·rw [h2 k hk, List.getElem?_reverse hk]
  split
  ·rfl
  ·rw [show k = xs.length - 1 - k by omega]
   congr 1
   omega
 ·rw [List.getElem?_eq_none (by omega), List.getElem?_eq_none (by simp; omega)]
abbrev slices_Reverse_byte_byte.A : Nat → LA := fun r => if r = 1 then ⟨[(2, false, [Lf.i .i64]), (3, false, [Lf.i .i64])], []⟩ else ⟨[], []⟩
set_option maxHeartbeats 4000000 in
theorem slices_Reverse_byte_byte.t (A0 : Option Addr) (n0 c0 : Nat) : tree Try.prog slices_Reverse_byte_byte.A noC Try.f73 [AV.v (Value.slice A0 n0 c0)] [] =
  .loop ([Lf.i .i64, Lf.i .i64]) ((0, IntKind.i64.wrap ((n0 : Int) - 1), PUnit.unit)) 0 (fun x0 =>
   bif decide (x0.1 < x0.2.1) then (
    .need (decide (0 ≤ x0.2.1) && decide (x0.2.1 < (n0 : Int)) && Option.isSome A0) (
    .ld (Option.map (fun x => Addr.add x (Int.toNat x0.2.1 * 1)) A0) ([Lf.i IntKind.u8]) (fun x1 =>
     .need (decide (0 ≤ x0.1) && decide (x0.1 < (n0 : Int)) && Option.isSome A0) (
     .ld (Option.map (fun x => Addr.add x (Int.toNat x0.1 * 1)) A0) ([Lf.i IntKind.u8]) (fun x2 =>
      .need (decide (0 ≤ x0.1) && decide (x0.1 < (n0 : Int)) && Option.isSome A0) (
      .sto (Option.map (fun x => Addr.add x (Int.toNat x0.1 * 1)) A0) ([AV.v (Value.int IntKind.u8 x1.1)]) ([]) (
      .need (decide (0 ≤ x0.2.1) && decide (x0.2.1 < (n0 : Int)) && Option.isSome A0) (
      .sto (Option.map (fun x => Addr.add x (Int.toNat x0.2.1 * 1)) A0) ([AV.v (Value.int IntKind.u8 x2.1)]) ([]) (
      .again 0 ([Lf.i .i64, Lf.i .i64]) ((IntKind.i64.wrap (x0.1 + 1), IntKind.i64.wrap (x0.2.1 - 1), PUnit.unit)))))))))))
   else (
    .done (AV.tup []) ([]))) := by kernel_rfl
set_option maxHeartbeats 4000000 in
theorem slices_Reverse_byte_byte.c (base : Nat) (A : Option Addr) (c : Nat) (xs : List Int) (w : World) (ho : OwnF base (fun _ => False) w 5 R23 A c xs) : Calls Try.prog 73 #[.slice A xs.length c] w fun e w' => e = .returned (((Sh.tup [] : Sh).av (vs [] ())).g id) ∧ OwnF base (fun _ => False) w' 5 R23 A c xs.reverse ∧ Fine (blk (A, 0, 0)) w (blk (A, 0, 0)) w' := by
 have hmx := ho.sl.2.2
 refine enter0 mixed slices_Reverse_byte_byte.A noC [AV.v (Value.slice A xs.length c)] Try.func73 rfl rfl rfl (fun hF0 => ?_)
 rw [slices_Reverse_byte_byte.t]
 have hF : Fine (blk (A, 0, 0)) w (fun _ => False) w := ⟨rfl, rfl, rfl, Nat.le_refl _, fun _ _ _ => rfl, fun b h => h.elim⟩
 obtain ⟨I, hI⟩ : ∃ I : Nat → Tup [Lf.i .i64, Lf.i .i64] → (Nat → Prop) → World → Prop, I = (fun m y L w' => ∃ (i : Nat) (ys : List Int), m + i = xs.length ∧ y = ((i : Int), (xs.length : Int) - 1 - (i : Int), ()) ∧ RevAt73 xs ys i ∧ Fine (blk (A, 0, 0)) w L w' ∧ OwnF base L w' 5 R23 A c ys) := ⟨_, rfl⟩
 have e0 : IntKind.i64.wrap ((xs.length : Int) - 1) = (xs.length : Int) - 1 - ((0 : Nat) : Int) := by rw [wrap_in] <;> omega
 refine ok_loop I xs.length (by rw [hI]; exact ⟨0, xs, rfl, by rw [e0]; rfl, ⟨rfl, fun k hk => by rw [if_neg (by omega)]⟩, hF, ho⟩) ?_
 intro m y L1 w1 hy
 rw [hI] at hy
 obtain ⟨i, ys, hm, rfl, hR, hF, ho⟩ := hy
 have hl := hR.1
 dsimp only
 refine ok_if (fun hc => ?_) (fun hc => ?_)
 ·have hlt : (i : Int) < (xs.length : Int) - 1 - (i : Int) := of_decide_eq_true hc
  have ej : (xs.length : Int) - 1 - (i : Int) = ((xs.length - 1 - i : Nat) : Int) := by omega
  obtain ⟨b, hb⟩ : ∃ b, ys[xs.length - 1 - i]? = some b := ⟨_, List.getElem?_eq_getElem (by omega)⟩
  obtain ⟨a, ha⟩ : ∃ a, ys[i]? = some a := ⟨_, List.getElem?_eq_getElem (by omega)⟩
  have gb : getI ys ((xs.length - 1 - i : Nat) : Int) = some b := by rw [getI_nat]; exact hb
  have ga : getI ys (i : Int) = some a := by rw [getI_nat]; exact ha
  rw [ej]
  refine ok_need (by have := getI_need ho.sl gb; rwa [hl] at this) ?_
  refine ok_get ho.sl (Fine.refl _ _) gb (by simp) (fun cs hcs => ⟨(b, ()), hcs.symm, ?_⟩)
  dsimp only
  refine ok_need (by have := getI_need ho.sl ga; rwa [hl] at this) ?_
  refine ok_get ho.sl (Fine.refl _ _) ga (by simp) (fun cs hcs => ⟨(a, ()), hcs.symm, ?_⟩)
  dsimp only
  refine ok_need (by have := getI_need ho.sl ga; rwa [hl] at this) ?_
  rw [← map_add0 (Option.map (fun x => Addr.add x (Int.toNat (i : Int) * 1)) A)]
  refine ok_putF (R := R23) (x := a) (x' := b) (vs := [Value.int IntKind.u8 b]) (Int.toNat (i : Int)) 0 ho (by rw [Int.toNat_natCast]; exact ha) (Nat.le_of_ble_eq_true rfl) rfl (fun _ => rfl) (fun L2 w2 ho2 g2 hid2 => ?_)
  have hF2 := Fine.own hF g2 (fun b hb => Or.inl hb) hid2
  rw [Int.toNat_natCast] at ho2
  have hb2 : (ys.set i b)[xs.length - 1 - i]? = some b := by rw [List.getElem?_set, if_neg (by omega)]; exact hb
  have gb2 : getI (ys.set i b) ((xs.length - 1 - i : Nat) : Int) = some b := by rw [getI_nat]; exact hb2
  refine ok_need (by have := getI_need ho2.sl gb2; rwa [List.length_set, hl] at this) ?_
  rw [← map_add0 (Option.map (fun x => Addr.add x (Int.toNat ((xs.length - 1 - i : Nat) : Int) * 1)) A)]
  refine ok_putF (R := R23) (x := b) (x' := a) (vs := [Value.int IntKind.u8 a]) (Int.toNat ((xs.length - 1 - i : Nat) : Int)) 0 ho2 (by rw [Int.toNat_natCast]; exact hb2) (Nat.le_of_ble_eq_true rfl) rfl (fun _ => rfl) (fun L3 w3 ho3 g3 hid3 => ?_)
  have hF3 := Fine.own hF2 g3 (fun b hb => Or.inl hb) hid3
  rw [Int.toNat_natCast] at ho3
  have f1 : IntKind.i64.wrap ((i : Int) + 1) = ((i + 1 : Nat) : Int) := by rw [wrap_in] <;> omega
  have f2 : IntKind.i64.wrap (((xs.length - 1 - i : Nat) : Int) - 1) = (xs.length : Int) - 1 - ((i + 1 : Nat) : Int) := by rw [wrap_in] <;> omega
  exact ok_again (I := I) (m - 1) (by omega) (fun L w' he => by rw [hI]; exact ⟨i + 1, _, by omega, by rw [f1, f2], hR.step (by omega) ha hb, hF3.trans he.fine, ho3.later he.fine⟩)
 ·have hge : ¬ ((i : Int) < (xs.length : Int) - 1 - (i : Int)) := of_decide_eq_false hc
  obtain rfl := hR.fin (by omega)
  intro ρ L w' _ he _ _
  exact ⟨rfl, (ho.later he.fine).bare, (hF.ext he).with (fun b h => Or.inl h)⟩
theorem ok_rev23 {pin : List (Nat × Nat)} {Q : Ending → World → Prop} {J : Jt} {Lu : Nat → Prop} {wu : World} {A : Option Addr} {base c n1 : Nat} {xs : List Int} {k : Tup [] → XT} (hn1 : n1 = xs.length) (ho : OwnF base Lu wu 5 R23 A c xs)
  (hk : ∀ L w, OwnF base L w 5 R23 A c xs.reverse → Fine (fun b => Lu b ∨ blk (A, 0, 0) b) wu L w → (∀ q, L q → Lu q ∨ wu.heap.size ≤ q) → (k ()).ok Try.prog pin Q J L w) :
  (XT.call 73 [AV.v (Value.slice A n1 c)] [] (Sh.tup []) [] [] k).ok Try.prog pin Q J Lu wu := by
 subst hn1
 refine ok_callo (blk (A, 0, 0)) rfl (fun b ⟨ad, ha, hb⟩ => hb ▸ ⟨(ho.2 ad ha).2, (ho.2 ad ha).1⟩) (fun L1 w1 g1 lt1 => ?_)
 refine (slices_Reverse_byte_byte.c base A c xs w1 (ho.later g1).bare).mono ?_
 rintro e w1' ⟨rfl, hO, hf⟩
 exact ⟨(), rfl, hf, fun g2 hid2 hv2 => hk L1 w1' (hO.vis (fun b h => hv2 b (Or.inl h))) g2 hid2⟩
def slices_Grow_byte_byte.F (k : Nat) (a1 : Int) : Option (List Int) := bif decide (0 ≤ a1 ∧ a1 * 1 ≤ 140737488355328) then some [] else none
theorem slices_Grow_byte_byte.c (k : Nat) (a1 : Int) (r : List Int) (h : slices_Grow_byte_byte.F k a1 = some r) (w : World) : Calls Try.prog 77 (AV.gs id [AV.v (Value.slice none 0 0), AV.v (.int .i64 a1)]).toArray w fun e w' => ∃ (B0 : Option Addr) (d0 : Nat), e = .returned (((Sh.one : Sh).av (vs [Lf.sl] ((B0, r.length, d0), ()))).g id) ∧ Below w.heap.size w w' ∧ OwnF w.heap.size (fun b => b < w.heap.size) w' 5 R23 B0 d0 r := by
 unfold slices_Grow_byte_byte.F at h
 obtain ⟨hq, h⟩ := bif_need h
 have hq := of_decide_eq_true hq
 obtain rfl := Option.some.inj h
 refine enter0 mixed noA noC [AV.v (Value.slice none 0 0), AV.v (.int .i64 a1)] Try.func77 rfl rfl rfl (fun hF => ?_)
 rw [show tree Try.prog noA noC Try.f77 [AV.v (Value.slice none 0 0), AV.v (.int .i64 a1)] [] = bif decide (a1 < 0) then .die (AV.v (Value.iface 9 (Value.string ⟨⟨[99, 97, 110, 110, 111, 116, 32, 98, 101, 32, 110, 101, 103, 97, 116, 105, 118, 101]⟩⟩))) else bif decide (0 < IntKind.i64.wrap (a1 - IntKind.i64.wrap (((0 : Nat) : Int) - ((0 : Nat) : Int)))) then .need true (.sem (Builtin.append_ #[23, 3] 23 #[Value.slice none 0 0, Value.int IntKind.i64 (IntKind.i64.wrap (a1 - IntKind.i64.wrap (((0 : Nat) : Int) - ((0 : Nat) : Int))))]) [Lf.sl] Sh.one (fun x0 => .need true (.done (AV.v (Value.slice (if ((x0.1.2.2 : Nat) : Int) = 0 then x0.1.1 else Option.map (fun x => Addr.add x 0) x0.1.1) 0 (x0.1.2.2 - 0))) []))) else .done (AV.v (Value.slice none 0 0)) [] by kernel_rfl]
 have e0 : IntKind.i64.wrap (a1 - IntKind.i64.wrap (((0 : Nat) : Int) - ((0 : Nat) : Int))) = a1 := by
  rw [wrap_small (((0 : Nat) : Int) - ((0 : Nat) : Int)) (by omega) (by omega), wrap_small _ (by omega) (by omega)]; omega
 rw [e0]
 refine ok_if (fun hc => ?_) (fun hc => ?_)
 ·have := of_decide_eq_true hc; omega
 refine ok_if (fun hc => ?_) (fun hc => ?_)
 ·refine ok_need rfl ?_
  refine ok_zeros (R := R23) (base := w.heap.size) E23 (kn := .i64) rfl hF.size (of_decide_eq_true hc) (by decide) (by omega) (fun A c L1 w1 hc1 hc0 hO1 g1 hbl1 => ?_)
  have hF1 := hF.trans g1
  refine ok_need rfl ?_
  dsimp only
  rw [if_neg (by omega)]
  intro ρ L w' _ he _ _
  refine ⟨A, c, ?_, (hF1.ext he).below, (hO1.later he.fine).ret⟩
  cases A with
  | none => rfl
  | some ad => rfl
 ·intro ρ L w' _ he _ _
  exact ⟨none, 0, rfl, (hF.ext he).below, OwnF.ret (OwnF.nil _ (fun _ => False) _ _ _)⟩
def slices_Concat_byte_byte.s2 (k : Nat) (l0 : List ((List Int))) : ((List Int) × Int) → Option (Sum ((List Int) × Int) (Sum (Int × Int) ((List Int)))) := fun (s2_0, v2_1) => bif decide (v2_1 < ((l0.length : Nat) : Int)) then ((getI l0 v2_1).bind fun r10 => bif decide ((s2_0.length + r10.length) * 1 ≤ 140737488355328) then (some (.inl (((s2_0 ++ r10), IntKind.i64.wrap (v2_1 + 1))))) else none) else (some (.inr (.inr s2_0)))
def slices_Concat_byte_byte.s0 (k : Nat) (l0 : List ((List Int))) : (Int × Int) → Option (Sum (Int × Int) ((List Int))) := fun (v0_0, v0_1) => bif decide (v0_1 < ((l0.length : Nat) : Int)) then ((getI l0 v0_1).bind fun r3 => bif decide (IntKind.i64.wrap (v0_0 + ((r3.length : Nat) : Int)) < 0) then (none) else (some (.inl ((IntKind.i64.wrap (v0_0 + ((r3.length : Nat) : Int)), IntKind.i64.wrap (v0_1 + 1)))))) else ((slices_Grow_byte_byte.F k v0_0).bind fun s1_0 => iter (slices_Concat_byte_byte.s2 k l0) k (s1_0, 0))
def slices_Concat_byte_byte.F (k : Nat) (l0 : List ((List Int))) : Option ((List Int)) := iter (slices_Concat_byte_byte.s0 k l0) k (0, 0)
abbrev slices_Concat_byte_byte.A : Nat → LA := fun r => if r = 3 then ⟨[(3, false, [Lf.i .i64]), (11, false, [Lf.i .i64])], []⟩ else if r = 11 then ⟨[(6, false, [Lf.sl]), (27, false, [Lf.i .i64])], []⟩ else ⟨[], []⟩
set_option maxHeartbeats 4000000 in
theorem slices_Concat_byte_byte.t (A0 : Option Addr) (n0 c0 : Nat) : tree Try.prog slices_Concat_byte_byte.A noC Try.f74 [AV.v (Value.slice A0 n0 c0)] [] =
  .loop ([Lf.i .i64, Lf.i .i64]) ((0, 0, PUnit.unit)) 0 (fun x0 =>
   bif decide (x0.2.1 < ((n0 : Nat) : Int)) then (
    .need (decide (0 ≤ x0.2.1) && decide (x0.2.1 < ((n0 : Nat) : Int)) && Option.isSome A0) (
    .ld (Option.map (fun x => Addr.add x (Int.toNat x0.2.1 * 1)) A0) ([Lf.sl]) (fun x1 =>
     bif decide (IntKind.i64.wrap (x0.1 + ((x1.1.2.1 : Nat) : Int)) < 0) then (
      .die (AV.v (Value.iface 9 (Value.string { data := { toList := [108, 101, 110, 32, 111, 117, 116, 32, 111, 102, 32, 114, 97, 110, 103, 101] } }))))
     else (
      .again 0 ([Lf.i .i64, Lf.i .i64]) ((IntKind.i64.wrap (x0.1 + ((x1.1.2.1 : Nat) : Int)), IntKind.i64.wrap (x0.2.1 + 1), PUnit.unit))))))
   else (
    .call 77 ([AV.v (Value.slice none 0 0), AV.v (.int .i64 x0.1)]) ([]) (Sh.one) ([Lf.sl]) ([]) (fun x1 =>
     .loop ([Lf.sl, Lf.i .i64]) (((x1.1.1, x1.1.2.1, x1.1.2.2), 0, PUnit.unit)) 0 (fun x2 =>
      bif decide (x2.2.1 < ((n0 : Nat) : Int)) then (
       .need (decide (0 ≤ x2.2.1) && decide (x2.2.1 < ((n0 : Nat) : Int)) && Option.isSome A0) (
       .ld (Option.map (fun x => Addr.add x (Int.toNat x2.2.1 * 1)) A0) ([Lf.sl]) (fun x3 =>
        .sem (Builtin.append_ { toList := [23, 23] } 23 { toList := [Value.slice x2.1.1 x2.1.2.1 x2.1.2.2, Value.slice x3.1.1 x3.1.2.1 x3.1.2.2] }) ([Lf.sl]) (Sh.one) (fun x4 =>
         .again 0 ([Lf.sl, Lf.i .i64]) (((x4.1.1, x4.1.2.1, x4.1.2.2), IntKind.i64.wrap (x2.2.1 + 1), PUnit.unit))))))
      else (
       .done (AV.v (Value.slice x2.1.1 x2.1.2.1 x2.1.2.2)) ([])))))) := by kernel_rfl
set_option maxHeartbeats 4000000 in
theorem slices_Concat_byte_byte.c (k : Nat) (A0 : Option Addr) (n0 c0 : Nat) (l0 : List ((List Int))) (r : (List Int)) (h : slices_Concat_byte_byte.F k l0 = some r) (hn0 : n0 = l0.length) (w : World) (hS0 : SlR R94 (fun _ => False) w A0 c0 l0) : Calls Try.prog 74 (AV.gs id [AV.v (Value.slice A0 n0 c0)]).toArray w fun e w' => ∃ (B0 : Option Addr) (d0 : Nat), e = .returned (((Sh.one : Sh).av (vs [Lf.sl] ((B0, (r).length, d0), ()))).g id) ∧ Below w.heap.size w w' ∧ OwnF w.heap.size (fun b => b < w.heap.size) w' 5 R23 B0 d0 r := by
 subst hn0
 refine enter0 mixed slices_Concat_byte_byte.A noC [AV.v (Value.slice A0 l0.length c0)] Try.func74 rfl rfl rfl (fun hF => ?_)
 rw [slices_Concat_byte_byte.t]
 unfold slices_Concat_byte_byte.F at h
 try dsimp only at h
 obtain ⟨I0, hI0⟩ : ∃ I : Nat → Tup [Lf.i .i64, Lf.i .i64] → (Nat → Prop) → World → Prop, I = (fun m_ y L w' => ∃ (v0_0 : Int) (v0_1 : Int), y = (v0_0, v0_1, ()) ∧ iter (slices_Concat_byte_byte.s0 k l0) m_ (v0_0, v0_1) = some r ∧ Fine (fun _ => False) w L w') := ⟨_, rfl⟩
 refine ok_loop I0 k (by rw [hI0]; exact ⟨_, _, rfl, h, hF⟩) ?_
 clear h
 intro m_ y L0 w0 hy
 rw [hI0] at hy
 obtain ⟨v0_0, v0_1, rfl, h, hF⟩ := hy
 obtain ⟨m0, o0, rfl, h, hl0, hr_0⟩ := iter_some h
 unfold slices_Concat_byte_byte.s0 at h
 try dsimp only at h
 try dsimp only
 refine ok_if (fun hc2 => ?_) (fun hc2 => ?_)
 ·have h := bif_t h hc2
  obtain ⟨r3, hr4, h⟩ := bse h
  refine ok_need (getI_need (hS0.later hF) hr4) ?_
  refine ok_get hS0 hF hr4 (by simp) (fun cs hcs => ?_)
  obtain ⟨A1_0, q1_0, c1_0, rfl, hm1_0, hE1_0⟩ := hcs
  subst hm1_0
  refine ⟨((A1_0, (r3).length, c1_0), ()), rfl, ?_⟩
  try dsimp only
  refine ok_if (fun hc6 => ?_) (fun hc6 => ?_)
  ·have h := bif_t h hc6
   cases h
  ·have h := bif_f h hc6
   obtain rfl := Option.some.inj h
   have h := hl0 _ rfl
   exact ok_again (I := I0) m0 (Nat.lt_succ_self _) (fun L w' he => by rw [hI0]; exact ⟨_, _, rfl, h, hF.trans he.fine⟩)
 ·have h := bif_f h hc2
  obtain ⟨s1_0, hr1, h⟩ := bse h
  refine ok_callm rfl (fun L1 w1 g1 lt1 => ?_)
  refine (slices_Grow_byte_byte.c k v0_0 s1_0 hr1  w1 ).mono ?_
  rintro e w1' ⟨A1_0, c1_0, rfl, hb1, hO1_0⟩
  refine ⟨((A1_0, s1_0.length, c1_0), ()), rfl, hb1, fun g1' => ?_⟩
  try dsimp only
  have hO1_0 := hO1_0.call (hF.trans g1).size lt1
  have hF := hF.trans g1'
  obtain ⟨I2, hI2⟩ : ∃ I : Nat → Tup [Lf.sl, Lf.i .i64] → (Nat → Prop) → World → Prop, I = (fun m_ y L w' => ∃ (A2_0 : Option Addr) (c2_0 : Nat) (s2_0 : List Int) (v2_1 : Int), y = ((A2_0, s2_0.length, c2_0), v2_1, ()) ∧ iter (slices_Concat_byte_byte.s2 k l0) m_ (s2_0, v2_1) = some o0 ∧ Fine (fun _ => False) w L w' ∧ OwnF w.heap.size L w' 5 R23 A2_0 c2_0 s2_0) := ⟨_, rfl⟩
  refine ok_loop I2 k (by rw [hI2]; exact ⟨A1_0, c1_0, s1_0, _, rfl, h, hF, hO1_0⟩) ?_
  clear h
  intro m_ y L2 w2 hy
  rw [hI2] at hy
  obtain ⟨A2_0, c2_0, s2_0, v2_1, rfl, h, hF, hO_s2_0⟩ := hy
  obtain ⟨m2, o2, rfl, h, hl2, hr_2⟩ := iter_some h
  unfold slices_Concat_byte_byte.s2 at h
  try dsimp only at h
  try dsimp only
  refine ok_if (fun hc9 => ?_) (fun hc9 => ?_)
  ·have h := bif_t h hc9
   obtain ⟨r10, hr11, h⟩ := bse h
   refine ok_need (getI_need (hS0.later hF) hr11) ?_
   refine ok_get hS0 hF hr11 (by simp) (fun cs hcs => ?_)
   obtain ⟨A3_0, q3_0, c3_0, rfl, hm3_0, hE3_0⟩ := hcs
   subst hm3_0
   refine ⟨((A3_0, (r10).length, c3_0), ()), rfl, ?_⟩
   try dsimp only
   obtain ⟨hq13, h⟩ := bif_need h
   have hq13 := of_decide_eq_true hq13
   refine ok_app (R := R23) (base := w.heap.size) (xs := s2_0) (ys := r10) rfl rfl E23 hO_s2_0 (hE3_0.later hF) (by decide) hq13 hF.size (fun Ax4 cx4 L4 w4 hO4 g4 hid4 hbl4 => ?_)
   try dsimp only
   have hF := Fine.own hF g4 (fun b hb => Or.inr (Own.base hO_s2_0 hb)) hid4
   obtain rfl := Option.some.inj h
   have h := hl2 _ rfl
   exact ok_again (I := I2) m2 (Nat.lt_succ_self _) (fun L w' he => by rw [hI2]; exact ⟨Ax4, cx4, (s2_0 ++ r10), _, rfl, h, hF.trans he.fine, hO4.later he.fine⟩)
  ·have h := bif_f h hc9
   obtain rfl := Option.some.inj h
   obtain rfl := hr_2 _ rfl
   obtain rfl := hr_0 _ rfl
   intro ρ L w' _ he _ _
   exact ⟨A2_0, c2_0, rfl, (hF.ext he).below, (hO_s2_0.later he.fine).ret⟩
def vint_PutWide.s4 (k : Nat) (a2 : Int) (l0 : List Int) : (Int × (List Int) × Int) → Option (Sum (Int × (List Int) × Int) ((List Int) × Int)) := fun (v4_0, s4_1, v4_2) => bif decide (v4_2 < a2) then (bif decide ((s4_1.length + (([(IntKind.wrap IntKind.u8 v4_0)] : List Int)).length) * 1 ≤ 140737488355328) then (some (.inl ((Int.fdiv v4_0 (2 ^ 8), (s4_1 ++ ([(IntKind.wrap IntKind.u8 v4_0)] : List Int)), IntKind.i64.wrap (v4_2 + 1))))) else none) else ((slices_Concat_byte_byte.F k (([(l0), ((s4_1.reverse))] : List ((List Int))))).bind fun s7_0 => some (.inr ((s7_0, 0))))
def vint_PutWide.F (k : Nat) (l0 : List Int) (a1 : Int) (a2 : Int) : Option ((List Int) × Int) := (slices_Index_int_int.F k (([(1), (2), (4), (8)] : List Int)) a2).bind fun v1_0 => bif decide (v1_0 < 0) then (some (([], 1))) else ((vint_fits.F k a1 v1_0).bind fun v2_0 => bif v2_0 then ((vint_bits.F k v1_0).bind fun v3_0 => bif decide (0 ≤ v3_0) then (iter (vint_PutWide.s4 k a2 l0) k (IntKind.i64.wrap (((BitVec.toNat (BitVec.ofInt 64 a1 ||| BitVec.ofInt 64 (IntKind.i64.wrap (v1_0 * 2 ^ min (Int.toNat v3_0) 64)))) : Nat) : Int), [], 0)) else none) else (some (([], 1))))
abbrev vint_PutWide.A : Nat → LA := fun r => if r = 7 then ⟨[(1, false, [Lf.i .i64]), (9, false, [Lf.sl]), (28, false, [Lf.i .i64])], []⟩ else ⟨[], []⟩
set_option maxHeartbeats 4000000 in
theorem vint_PutWide.t (A0 : Option Addr) (n0 c0 : Nat) (a1 : Int) (a2 : Int) : tree Try.prog vint_PutWide.A noC Try.f68 [AV.v (Value.slice A0 n0 c0), AV.v (.int .i64 a1), AV.v (.int .i64 a2)] [] =
  .sem (Instr.buildSlice 76 4 { toList := [(0, Value.int IntKind.i64 1), (1, Value.int IntKind.i64 2), (2, Value.int IntKind.i64 4), (3, Value.int IntKind.i64 8)] }) ([Lf.sl]) (Sh.one) (fun x0 =>
   .call 72 ([AV.v (Value.slice x0.1.1 x0.1.2.1 x0.1.2.2), AV.v (.int .i64 a2)]) ([]) (Sh.one) ([Lf.i .i64]) ([]) (fun x1 =>
    bif decide (x1.1 < 0) then (
     .done (AV.tup [AV.v (Value.slice none 0 0), AV.v (.int .i64 1)]) ([]))
    else (
     .call 67 ([AV.v (.int .i64 a1), AV.v (.int .i64 x1.1)]) ([]) (Sh.one) ([Lf.b]) ([]) (fun x2 =>
      bif x2.1 then (
       .call 71 ([AV.v (.int .i64 x1.1)]) ([]) (Sh.one) ([Lf.i .i64]) ([]) (fun x3 =>
        .need (decide (0 ≤ x3.1)) (
        .loop ([Lf.i .i64, Lf.sl, Lf.i .i64]) ((IntKind.i64.wrap (((BitVec.toNat (BitVec.ofInt 64 a1 ||| BitVec.ofInt 64 (IntKind.i64.wrap (x1.1 * 2 ^ min (Int.toNat x3.1) 64)))) : Nat) : Int), (none, 0, 0), 0, PUnit.unit)) 0 (fun x4 =>
         bif decide (x4.2.2.1 < a2) then (
          .sem (Instr.buildSlice 23 1 { toList := [(0, Value.int IntKind.u8 (IntKind.wrap IntKind.u8 x4.1))] }) ([Lf.sl]) (Sh.one) (fun x5 =>
           .sem (Builtin.append_ { toList := [23, 23] } 23 { toList := [Value.slice x4.2.1.1 x4.2.1.2.1 x4.2.1.2.2, Value.slice x5.1.1 x5.1.2.1 x5.1.2.2] }) ([Lf.sl]) (Sh.one) (fun x6 =>
            .need (true) (
            .again 0 ([Lf.i .i64, Lf.sl, Lf.i .i64]) ((Int.fdiv x4.1 (2 ^ 8), (x6.1.1, x6.1.2.1, x6.1.2.2), IntKind.i64.wrap (x4.2.2.1 + 1), PUnit.unit))))))
         else (
          .call 73 ([AV.v (Value.slice x4.2.1.1 x4.2.1.2.1 x4.2.1.2.2)]) ([]) (Sh.tup []) ([]) ([]) (fun x5 =>
           .sem (Instr.buildSlice 94 2 { toList := [(0, Value.slice A0 n0 c0), (1, Value.slice x4.2.1.1 x4.2.1.2.1 x4.2.1.2.2)] }) ([Lf.sl]) (Sh.one) (fun x6 =>
            .call 74 ([AV.v (Value.slice x6.1.1 x6.1.2.1 x6.1.2.2)]) ([]) (Sh.one) ([Lf.sl]) ([]) (fun x7 =>
             .done (AV.tup [AV.v (Value.slice x7.1.1 x7.1.2.1 x7.1.2.2), AV.v (.int .i64 0)]) ([])))))))))
      else (
       .done (AV.tup [AV.v (Value.slice none 0 0), AV.v (.int .i64 1)]) ([])))))) := by kernel_rfl
set_option maxHeartbeats 4000000 in
theorem vint_PutWide.c (k : Nat) (A0 : Option Addr) (n0 c0 : Nat) (l0 : List Int) (a1 : Int) (a2 : Int) (r : (List Int) × Int) (h : vint_PutWide.F k l0 a1 a2 = some r) (hn0 : n0 = l0.length) (w : World) (hS0 : SlR R23.row (fun _ => False) w A0 c0 l0) : Calls Try.prog 68 (AV.gs id [AV.v (Value.slice A0 n0 c0), AV.v (.int .i64 a1), AV.v (.int .i64 a2)]).toArray w fun e w' => ∃ (B0 : Option Addr) (d0 : Nat), e = .returned (((Sh.tup [(false, 1), (false, 1)] : Sh).av (vs [Lf.sl, Lf.i .i64] ((B0, (r.1).length, d0), r.2, ()))).g id) ∧ Below w.heap.size w w' ∧ OwnF w.heap.size (fun b => b < w.heap.size) w' 5 R23 B0 d0 r.1 := by
 subst hn0
 refine enter0 mixed vint_PutWide.A noC [AV.v (Value.slice A0 l0.length c0), AV.v (.int .i64 a1), AV.v (.int .i64 a2)] Try.func68 rfl rfl rfl (fun hF => ?_)
 rw [vint_PutWide.t]
 unfold vint_PutWide.F at h
 try dsimp only at h
 refine ok_lit (R := R76) (base := w.heap.size) (xs := ([(1), (2), (4), (8)] : List Int)) #[Value.int IntKind.i64 1, Value.int IntKind.i64 2, Value.int IntKind.i64 4, Value.int IntKind.i64 8] E76 rfl (by decide) (by decide) ⟨_, _, rfl, rfl, by kernel_rfl⟩ rfl hF.size (fun Ax0 cx0 L0 w0 hO0 g0 hbl0 => ?_)
 try dsimp only
 have hF := hF.trans g0
 obtain ⟨v1_0, hr1, h⟩ := bse h
 refine ok_callm rfl (fun L1 w1 g1 lt1 => ?_)
 refine (slices_Index_int_int.c k _ _ _ (([(1), (2), (4), (8)] : List Int)) a2 v1_0 hr1 rfl w1 (hO0.later g1).sl.bare).mono ?_
 rintro e w1' ⟨rfl, hb1⟩
 refine ⟨(v1_0, ()), rfl, hb1, fun g1' => ?_⟩
 try dsimp only
 have hF := hF.trans g1'
 have hO0 := hO0.later g1'
 refine ok_if (fun hc2 => ?_) (fun hc2 => ?_)
 ·have h := bif_t h hc2
  obtain rfl := Option.some.inj h
  intro ρ L w' _ he _ _
  exact ⟨none, 0, rfl, (hF.ext he).below, OwnF.ret (OwnF.nil _ (fun _ => False) _ _ _)⟩
 ·have h := bif_f h hc2
  obtain ⟨v2_0, hr2, h⟩ := bse h
  refine ok_callm rfl (fun L2 w2 g2 lt2 => ?_)
  refine (vint_fits.c k a1 v1_0 v2_0 hr2  w2 ).mono ?_
  rintro e w2' ⟨rfl, hb2⟩
  refine ⟨(v2_0, ()), rfl, hb2, fun g2' => ?_⟩
  try dsimp only
  have hF := hF.trans g2'
  have hO0 := hO0.later g2'
  refine ok_if (fun hc3 => ?_) (fun hc3 => ?_)
  ·have h := bif_t h hc3
   obtain ⟨v3_0, hr3, h⟩ := bse h
   refine ok_callm rfl (fun L3 w3 g3 lt3 => ?_)
   refine (vint_bits.c k v1_0 v3_0 hr3  w3 ).mono ?_
   rintro e w3' ⟨rfl, hb3⟩
   refine ⟨(v3_0, ()), rfl, hb3, fun g3' => ?_⟩
   try dsimp only
   have hF := hF.trans g3'
   have hO0 := hO0.later g3'
   obtain ⟨hn4, h⟩ := bif_need h
   refine ok_need hn4 ?_
   obtain ⟨I4, hI4⟩ : ∃ I : Nat → Tup [Lf.i .i64, Lf.sl, Lf.i .i64] → (Nat → Prop) → World → Prop, I = (fun m_ y L w' => ∃ (v4_0 : Int) (A4_1 : Option Addr) (c4_1 : Nat) (s4_1 : List Int) (v4_2 : Int), y = (v4_0, (A4_1, s4_1.length, c4_1), v4_2, ()) ∧ iter (vint_PutWide.s4 k a2 l0) m_ (v4_0, s4_1, v4_2) = some r ∧ Fine (fun _ => False) w L w' ∧ OwnF w.heap.size L w' 3 R76 Ax0 cx0 (([(1), (2), (4), (8)] : List Int)) ∧ OwnF w.heap.size L w' 5 R23 A4_1 c4_1 s4_1 ∧ Dj A4_1 Ax0) := ⟨_, rfl⟩
   refine ok_loop I4 k (by rw [hI4]; exact ⟨_, none, 0, [], _, rfl, h, hF, hO0, OwnF.nil _ _ _ _ _, Dj.nil2⟩) ?_
   clear h
   intro m_ y L4 w4 hy
   rw [hI4] at hy
   obtain ⟨v4_0, A4_1, c4_1, s4_1, v4_2, rfl, h, hF, hO0, hO_s4_1, dj_s4_1_o1⟩ := hy
   obtain ⟨m4, o4, rfl, h, hl4, hr_4⟩ := iter_some h
   unfold vint_PutWide.s4 at h
   try dsimp only at h
   try dsimp only
   refine ok_if (fun hc6 => ?_) (fun hc6 => ?_)
   ·have h := bif_t h hc6
    refine ok_lit (R := R23) (base := w.heap.size) (xs := ([(IntKind.wrap IntKind.u8 v4_0)] : List Int)) #[Value.int IntKind.u8 (IntKind.wrap IntKind.u8 v4_0)] E23 rfl (by decide) (by decide) ⟨_, _, rfl, rfl, by kernel_rfl⟩ rfl hF.size (fun Ax5 cx5 L5 w5 hO5 g5 hbl5 => ?_)
    try dsimp only
    have dj_o7_o1 : Dj Ax5 Ax0 := Dj.new hbl5 hO0.lt
    have dj_o7_s4_1 : Dj Ax5 A4_1 := Dj.new hbl5 hO_s4_1.lt
    have hF := hF.trans g5
    have hO0 := hO0.later g5
    have hO_s4_1 := hO_s4_1.later g5
    obtain ⟨hq8, h⟩ := bif_need h
    have hq8 := of_decide_eq_true hq8
    refine ok_app (R := R23) (base := w.heap.size) (xs := s4_1) (ys := ([(IntKind.wrap IntKind.u8 v4_0)] : List Int)) rfl rfl E23 hO_s4_1 hO5.sl (by decide) hq8 hF.size (fun Ax6 cx6 L6 w6 hO6 g6 hid6 hbl6 => ?_)
    try dsimp only
    have dj_o9_o1 : Dj Ax6 Ax0 := Dj.grow dj_s4_1_o1 hbl6 hO0.lt
    have dj_o9_o7 : Dj Ax6 Ax5 := Dj.grow (Dj.symm dj_o7_s4_1) hbl6 hO5.lt
    have hO0 := hO0.other (Dj.symm dj_s4_1_o1) g6
    have hO5 := hO5.other dj_o7_s4_1 g6
    have hF := Fine.own hF g6 (fun b hb => Or.inr (Own.base hO_s4_1 hb)) hid6
    refine ok_need rfl ?_
    obtain rfl := Option.some.inj h
    have h := hl4 _ rfl
    exact ok_again (I := I4) m4 (Nat.lt_succ_self _) (fun L w' he => by rw [hI4]; exact ⟨_, Ax6, cx6, (s4_1 ++ ([(IntKind.wrap IntKind.u8 v4_0)] : List Int)), _, rfl, h, hF.trans he.fine, hO0.later he.fine, hO6.later he.fine, dj_o9_o1⟩)
   ·have h := bif_f h hc6
    have hm_r5 : ∀ b, blk (A4_1, 0, 0) b → (fun _ => False) b ∨ w.heap.size ≤ b := (fun b hb => Or.inr (Own.base hO_s4_1 hb))
    refine ok_rev23 rfl hO_s4_1 (fun L5 w5 h5 gs5 hd5 => ?_)
    try dsimp only
    have hO0 := hO0.other (Dj.symm dj_s4_1_o1) gs5
    have hF := Fine.own hF gs5 hm_r5 hd5
    have hO_s4_1 := h5
    have hz5 : s4_1.length = ((s4_1.reverse)).length := by rw [List.length_reverse]
    refine ok_litN (R := R94) (xs := ([(l0), ((s4_1.reverse))] : List ((List Int)))) #[Value.slice A0 l0.length c0, Value.slice A4_1 s4_1.length c4_1] E94 rfl (by decide) (by decide) ⟨_, _, rfl, rfl, by kernel_rfl⟩ (fun L w' g => ⟨[_], _, rfl, ⟨_, _, _, rfl, rfl, (hS0.later (hF.trans g))⟩, ⟨[_], _, rfl, ⟨_, _, _, rfl, hz5, (hO_s4_1.later g).sl⟩, rfl⟩⟩) (fun Ax6 cx6 L6 w6 hC6 g6 hbl6 => ?_)
    try dsimp only
    have hF := hF.trans g6
    have hO0 := hO0.later g6
    have hO_s4_1 := hO_s4_1.later g6
    obtain ⟨s7_0, hr7, h⟩ := bse h
    refine ok_callm rfl (fun L7 w7 g7 lt7 => ?_)
    refine (slices_Concat_byte_byte.c k _ _ _ (([(l0), ((s4_1.reverse))] : List ((List Int)))) s7_0 hr7 rfl w7 (hC6.later g7).bare).mono ?_
    rintro e w7' ⟨A7_0, c7_0, rfl, hb7, hO7_0⟩
    refine ⟨((A7_0, s7_0.length, c7_0), ()), rfl, hb7, fun g7' => ?_⟩
    try dsimp only
    have dj_o12_o1 : Dj A7_0 Ax0 := Dj.new hO7_0.fresh (hO0.later g7).lt
    have dj_o12_w10 : Dj A7_0 A4_1 := Dj.new hO7_0.fresh (hO_s4_1.later g7).lt
    have hO7_0 := hO7_0.call (hF.trans g7).size lt7
    have hF := hF.trans g7'
    have hO0 := hO0.later g7'
    have hO_s4_1 := hO_s4_1.later g7'
    have hC6 := hC6.later g7'
    obtain rfl := Option.some.inj h
    obtain rfl := hr_4 _ rfl
    intro ρ L w' _ he _ _
    exact ⟨A7_0, c7_0, rfl, (hF.ext he).below, (hO7_0.later he.fine).ret⟩
  ·have h := bif_f h hc3
   obtain rfl := Option.some.inj h
   intro ρ L w' _ he _ _
   exact ⟨none, 0, rfl, (hF.ext he).below, OwnF.ret (OwnF.nil _ (fun _ => False) _ _ _)⟩
def vint_Put.F (k : Nat) (l0 : List Int) (a1 : Int) : Option ((List Int) × Int) := (vint_Size.F k a1).bind fun v0_0 => (vint_PutWide.F k l0 a1 v0_0).bind fun (s1_0, v1_1) => some ((s1_0, v1_1))
abbrev vint_Put.A : Nat → LA := noA
set_option maxHeartbeats 4000000 in
theorem vint_Put.t (A0 : Option Addr) (n0 c0 : Nat) (a1 : Int) : tree Try.prog vint_Put.A noC Try.f58 [AV.v (Value.slice A0 n0 c0), AV.v (.int .i64 a1)] [] =
  .call 57 ([AV.v (.int .i64 a1)]) ([]) (Sh.one) ([Lf.i .i64]) ([]) (fun x0 =>
   .call 68 ([AV.v (Value.slice A0 n0 c0), AV.v (.int .i64 a1), AV.v (.int .i64 x0.1)]) ([]) (Sh.tup [(false, 1), (false, 1)]) ([Lf.sl, Lf.i .i64]) ([]) (fun x1 =>
    .done (AV.tup [AV.v (Value.slice x1.1.1 x1.1.2.1 x1.1.2.2), AV.v (.int .i64 x1.2.1)]) ([]))) := by kernel_rfl
set_option maxHeartbeats 4000000 in
theorem vint_Put.c (k : Nat) (A0 : Option Addr) (n0 c0 : Nat) (l0 : List Int) (a1 : Int) (r : (List Int) × Int) (h : vint_Put.F k l0 a1 = some r) (hn0 : n0 = l0.length) (w : World) (hS0 : SlR R23.row (fun _ => False) w A0 c0 l0) : Calls Try.prog 58 (AV.gs id [AV.v (Value.slice A0 n0 c0), AV.v (.int .i64 a1)]).toArray w fun e w' => ∃ (B0 : Option Addr) (d0 : Nat), e = .returned (((Sh.tup [(false, 1), (false, 1)] : Sh).av (vs [Lf.sl, Lf.i .i64] ((B0, (r.1).length, d0), r.2, ()))).g id) ∧ Below w.heap.size w w' ∧ OwnF w.heap.size (fun b => b < w.heap.size) w' 5 R23 B0 d0 r.1 := by
 subst hn0
 refine enter0 mixed vint_Put.A noC [AV.v (Value.slice A0 l0.length c0), AV.v (.int .i64 a1)] Try.func58 rfl rfl rfl (fun hF => ?_)
 rw [vint_Put.t]
 unfold vint_Put.F at h
 try dsimp only at h
 obtain ⟨v0_0, hr0, h⟩ := bse h
 refine ok_callm rfl (fun L0 w0 g0 lt0 => ?_)
 refine (vint_Size.c k a1 v0_0 hr0  w0 ).mono ?_
 rintro e w0' ⟨rfl, hb0⟩
 refine ⟨(v0_0, ()), rfl, hb0, fun g0' => ?_⟩
 try dsimp only
 have hF := hF.trans g0'
 obtain ⟨r1, hr1, h⟩ := bse h
 obtain ⟨s1_0, v1_1⟩ := r1
 try dsimp only at h
 refine ok_callm rfl (fun L1 w1 g1 lt1 => ?_)
 refine (vint_PutWide.c k _ _ _ l0 a1 v0_0 (s1_0, v1_1) hr1 rfl w1 (hS0.later (hF.trans g1)).bare).mono ?_
 rintro e w1' ⟨A1_0, c1_0, rfl, hb1, hO1_0⟩
 refine ⟨((A1_0, s1_0.length, c1_0), v1_1, ()), rfl, hb1, fun g1' => ?_⟩
 try dsimp only
 have hO1_0 := hO1_0.call (hF.trans g1).size lt1
 have hF := hF.trans g1'
 obtain rfl := Option.some.inj h
 intro ρ L w' _ he _ _
 exact ⟨A1_0, c1_0, rfl, (hF.ext he).below, (hO1_0.later he.fine).ret⟩
def frames_Encode_1.F (k : Nat) (a0_0 : Int) (a0_1 : Int) (a0_2 : Int) (a0_3 : Int) (a0_4 : Int) (a0_5 : Bool) (l0_6 : List Int) (l0_7 : List (Int × Int)) : Option Bool := (frames_May.F k a0_0 a0_1 a0_2 a0_3 a0_4 a0_5 l0_6 l0_7).bind fun v0_0 => bif v0_0 then (some false) else (some true)
abbrev frames_Encode_1.A : Nat → LA := noA
set_option maxHeartbeats 4000000 in
theorem frames_Encode_1.t (a0_0 : Int) (a0_1 : Int) (a0_2 : Int) (a0_3 : Int) (a0_4 : Int) (a0_5 : Bool) (A0_6 : Option Addr) (n0_6 c0_6 : Nat) (A0_7 : Option Addr) (n0_7 c0_7 : Nat) : tree Try.prog frames_Encode_1.A noC Try.f22 [AV.agg [AV.v (.int .i64 a0_0), AV.v (.int .i64 a0_1), AV.v (.int .i64 a0_2), AV.v (.int .i64 a0_3), AV.v (.int .i64 a0_4), AV.v (Value.bool a0_5), AV.v (Value.slice A0_6 n0_6 c0_6), AV.v (Value.slice A0_7 n0_7 c0_7)]] [] =
  .call 18 ([AV.agg [AV.v (.int .i64 a0_0), AV.v (.int .i64 a0_1), AV.v (.int .i64 a0_2), AV.v (.int .i64 a0_3), AV.v (.int .i64 a0_4), AV.v (Value.bool a0_5), AV.v (Value.slice A0_6 n0_6 c0_6), AV.v (Value.slice A0_7 n0_7 c0_7)]]) ([]) (Sh.one) ([Lf.b]) ([]) (fun x0 =>
   bif x0.1 then (
    .done (AV.v (Value.bool false)) ([]))
   else (
    .done (AV.v (Value.bool true)) ([]))) := by kernel_rfl
set_option maxHeartbeats 4000000 in
theorem frames_Encode_1.c (k : Nat) (a0_0 : Int) (a0_1 : Int) (a0_2 : Int) (a0_3 : Int) (a0_4 : Int) (a0_5 : Bool) (A0_6 : Option Addr) (n0_6 c0_6 : Nat) (l0_6 : List Int) (A0_7 : Option Addr) (n0_7 c0_7 : Nat) (l0_7 : List (Int × Int)) (r : Bool) (h : frames_Encode_1.F k a0_0 a0_1 a0_2 a0_3 a0_4 a0_5 l0_6 l0_7 = some r) (hn0_6 : n0_6 = l0_6.length) (hn0_7 : n0_7 = l0_7.length) (w : World) (hS0_6 : SlR R23.row (fun _ => False) w A0_6 c0_6 l0_6) (hS0_7 : SlR R34.row (fun _ => False) w A0_7 c0_7 l0_7) : Calls Try.prog 22 (AV.gs id [AV.agg [AV.v (.int .i64 a0_0), AV.v (.int .i64 a0_1), AV.v (.int .i64 a0_2), AV.v (.int .i64 a0_3), AV.v (.int .i64 a0_4), AV.v (Value.bool a0_5), AV.v (Value.slice A0_6 n0_6 c0_6), AV.v (Value.slice A0_7 n0_7 c0_7)]]).toArray w fun e w' => e = .returned (((Sh.one : Sh).av (vs [Lf.b] (r, ()))).g id) ∧ Below w.heap.size w w' := by
 subst hn0_6
 subst hn0_7
 refine enter0 mixed frames_Encode_1.A noC [AV.agg [AV.v (.int .i64 a0_0), AV.v (.int .i64 a0_1), AV.v (.int .i64 a0_2), AV.v (.int .i64 a0_3), AV.v (.int .i64 a0_4), AV.v (Value.bool a0_5), AV.v (Value.slice A0_6 l0_6.length c0_6), AV.v (Value.slice A0_7 l0_7.length c0_7)]] Try.func22 rfl rfl rfl (fun hF => ?_)
 rw [frames_Encode_1.t]
 unfold frames_Encode_1.F at h
 try dsimp only at h
 obtain ⟨v0_0, hr0, h⟩ := bse h
 refine ok_callm rfl (fun L0 w0 g0 lt0 => ?_)
 refine (frames_May.c k a0_0 a0_1 a0_2 a0_3 a0_4 a0_5 _ _ _ l0_6 _ _ _ l0_7 v0_0 hr0 rfl rfl w0 (hS0_6.later (hF.trans g0)).bare (hS0_7.later (hF.trans g0)).bare).mono ?_
 rintro e w0' ⟨rfl, hb0⟩
 refine ⟨(v0_0, ()), rfl, hb0, fun g0' => ?_⟩
 try dsimp only
 have hF := hF.trans g0'
 refine ok_if (fun hc1 => ?_) (fun hc1 => ?_)
 ·have h := bif_t h hc1
  obtain rfl := Option.some.inj h
  intro ρ L w' _ he _ _
  exact ⟨rfl, (hF.ext he).below⟩
 ·have h := bif_f h hc1
  obtain rfl := Option.some.inj h
  intro ρ L w' _ he _ _
  exact ⟨rfl, (hF.ext he).below⟩
def index40.s0 (k : Nat) (l0 : List (Int × Int × Int × Int × Int × Bool × (List Int) × (List (Int × Int)))) : Int → Option (Sum Int Int) := fun v0_0 => bif decide (v0_0 < ((l0.length : Nat) : Int)) then ((getI l0 v0_0).bind fun r3 => (frames_Encode_1.F k r3.1 r3.2.1 r3.2.2.1 r3.2.2.2.1 r3.2.2.2.2.1 r3.2.2.2.2.2.1 r3.2.2.2.2.2.2.1 r3.2.2.2.2.2.2.2).bind fun v2_0 => bif v2_0 then (some (.inr v0_0)) else (some (.inl (IntKind.i64.wrap (v0_0 + 1))))) else (some (.inr ((-1))))
def index40.F (k : Nat) (l0 : List (Int × Int × Int × Int × Int × Bool × (List Int) × (List (Int × Int)))) : Option Int := iter (index40.s0 k l0) k 0
abbrev index40.A : Nat → LA := fun r => if r = 2 then ⟨[(8, false, [Lf.i .i64])], []⟩ else ⟨[], []⟩
set_option maxHeartbeats 4000000 in
theorem index40.t (A0 : Option Addr) (n0 c0 : Nat) : tree Try.prog index40.A noC Try.f40 [AV.v (Value.slice A0 n0 c0), AV.fn (Fn.func 22) [] []] [] =
  .loop ([Lf.i .i64]) ((0, PUnit.unit)) 0 (fun x0 =>
   bif decide (x0.1 < ((n0 : Nat) : Int)) then (
    .need (decide (0 ≤ x0.1) && decide (x0.1 < ((n0 : Nat) : Int)) && Option.isSome A0) (
    .ld (Option.map (fun x => Addr.add x (Int.toNat x0.1 * 8)) A0) ([Lf.i .i64, Lf.i .i64, Lf.i .i64, Lf.i .i64, Lf.i .i64, Lf.b, Lf.sl, Lf.sl]) (fun x1 =>
     .call 22 ([AV.agg [AV.v (.int .i64 x1.1), AV.v (.int .i64 x1.2.1), AV.v (.int .i64 x1.2.2.1), AV.v (.int .i64 x1.2.2.2.1), AV.v (.int .i64 x1.2.2.2.2.1), AV.v (Value.bool x1.2.2.2.2.2.1), AV.v (Value.slice x1.2.2.2.2.2.2.1.1 x1.2.2.2.2.2.2.1.2.1 x1.2.2.2.2.2.2.1.2.2), AV.v (Value.slice x1.2.2.2.2.2.2.2.1.1 x1.2.2.2.2.2.2.2.1.2.1 x1.2.2.2.2.2.2.2.1.2.2)]]) ([]) (Sh.one) ([Lf.b]) ([]) (fun x2 =>
      bif x2.1 then (
       .done (AV.v (.int .i64 x0.1)) ([]))
      else (
       .again 0 ([Lf.i .i64]) ((IntKind.i64.wrap (x0.1 + 1), PUnit.unit)))))))
   else (
    .done (AV.v (.int .i64 (-1))) ([]))) := by kernel_rfl
set_option maxHeartbeats 4000000 in
theorem index40.c (k : Nat) (A0 : Option Addr) (n0 c0 : Nat) (l0 : List (Int × Int × Int × Int × Int × Bool × (List Int) × (List (Int × Int)))) (r : Int) (h : index40.F k l0 = some r) (hn0 : n0 = l0.length) (w : World) (hS0 : SlR R22 (fun _ => False) w A0 c0 l0) : Calls Try.prog 40 (AV.gs id [AV.v (Value.slice A0 n0 c0), AV.fn (Fn.func 22) [] []]).toArray w fun e w' => e = .returned (((Sh.one : Sh).av (vs [Lf.i .i64] (r, ()))).g id) ∧ Below w.heap.size w w' := by
 subst hn0
 refine enter0 mixed index40.A noC [AV.v (Value.slice A0 l0.length c0), AV.fn (Fn.func 22) [] []] Try.func40 rfl rfl rfl (fun hF => ?_)
 rw [index40.t]
 unfold index40.F at h
 try dsimp only at h
 obtain ⟨I0, hI0⟩ : ∃ I : Nat → Tup [Lf.i .i64] → (Nat → Prop) → World → Prop, I = (fun m_ y L w' => ∃ (v0_0 : Int), y = (v0_0, ()) ∧ iter (index40.s0 k l0) m_ v0_0 = some r ∧ Fine (fun _ => False) w L w') := ⟨_, rfl⟩
 refine ok_loop I0 k (by rw [hI0]; exact ⟨_, rfl, h, hF⟩) ?_
 clear h
 intro m_ y L0 w0 hy
 rw [hI0] at hy
 obtain ⟨v0_0, rfl, h, hF⟩ := hy
 obtain ⟨m0, o0, rfl, h, hl0, hr_0⟩ := iter_some h
 unfold index40.s0 at h
 try dsimp only at h
 try dsimp only
 refine ok_if (fun hc2 => ?_) (fun hc2 => ?_)
 ·have h := bif_t h hc2
  obtain ⟨r3, hr4, h⟩ := bse h
  refine ok_need (getI_need (hS0.later hF) hr4) ?_
  refine ok_get hS0 hF hr4 (by simp) (fun cs hcs => ?_)
  obtain ⟨A1_6, q1_6, c1_6, A1_7, q1_7, c1_7, rfl, hm1_6, hE1_6, hm1_7, hE1_7⟩ := hcs
  subst hm1_6
  subst hm1_7
  refine ⟨(r3.1, r3.2.1, r3.2.2.1, r3.2.2.2.1, r3.2.2.2.2.1, r3.2.2.2.2.2.1, (A1_6, (r3.2.2.2.2.2.2.1).length, c1_6), (A1_7, (r3.2.2.2.2.2.2.2).length, c1_7), ()), rfl, ?_⟩
  try dsimp only
  obtain ⟨v2_0, hr2, h⟩ := bse h
  refine ok_callm rfl (fun L2 w2 g2 lt2 => ?_)
  refine (frames_Encode_1.c k r3.1 r3.2.1 r3.2.2.1 r3.2.2.2.1 r3.2.2.2.2.1 r3.2.2.2.2.2.1 _ _ _ r3.2.2.2.2.2.2.1 _ _ _ r3.2.2.2.2.2.2.2 v2_0 hr2 rfl rfl w2 (hE1_6.later (hF.trans g2)).bare (hE1_7.later (hF.trans g2)).bare).mono ?_
  rintro e w2' ⟨rfl, hb2⟩
  refine ⟨(v2_0, ()), rfl, hb2, fun g2' => ?_⟩
  try dsimp only
  have hF := hF.trans g2'
  refine ok_if (fun hc7 => ?_) (fun hc7 => ?_)
  ·have h := bif_t h hc7
   obtain rfl := Option.some.inj h
   obtain rfl := hr_0 _ rfl
   intro ρ L w' _ he _ _
   exact ⟨rfl, (hF.ext he).below⟩
  ·have h := bif_f h hc7
   obtain rfl := Option.some.inj h
   have h := hl0 _ rfl
   exact ok_again (I := I0) m0 (Nat.lt_succ_self _) (fun L w' he => by rw [hI0]; exact ⟨_, rfl, h, hF.trans he.fine⟩)
 ·have h := bif_f h hc2
  obtain rfl := Option.some.inj h
  obtain rfl := hr_0 _ rfl
  intro ρ L w' _ he _ _
  exact ⟨rfl, (hF.ext he).below⟩
def contains21.F (k : Nat) (l0 : List (Int × Int × Int × Int × Int × Bool × (List Int) × (List (Int × Int)))) : Option Bool := (index40.F k l0).bind fun v0_0 => bif decide (0 ≤ v0_0) then (some true) else (some false)
abbrev contains21.A : Nat → LA := noA
set_option maxHeartbeats 4000000 in
theorem contains21.t (A0 : Option Addr) (n0 c0 : Nat) : tree Try.prog contains21.A noC Try.f21 [AV.v (Value.slice A0 n0 c0), AV.fn (Fn.func 22) [] []] [] =
  .call 40 ([AV.v (Value.slice A0 n0 c0), AV.fn (Fn.func 22) [] []]) ([]) (Sh.one) ([Lf.i .i64]) ([]) (fun x0 =>
   bif decide (0 ≤ x0.1) then (
    .done (AV.v (Value.bool true)) ([]))
   else (
    .done (AV.v (Value.bool false)) ([]))) := by kernel_rfl
set_option maxHeartbeats 4000000 in
theorem contains21.c (k : Nat) (A0 : Option Addr) (n0 c0 : Nat) (l0 : List (Int × Int × Int × Int × Int × Bool × (List Int) × (List (Int × Int)))) (r : Bool) (h : contains21.F k l0 = some r) (hn0 : n0 = l0.length) (w : World) (hS0 : SlR R22 (fun _ => False) w A0 c0 l0) : Calls Try.prog 21 (AV.gs id [AV.v (Value.slice A0 n0 c0), AV.fn (Fn.func 22) [] []]).toArray w fun e w' => e = .returned (((Sh.one : Sh).av (vs [Lf.b] (r, ()))).g id) ∧ Below w.heap.size w w' := by
 subst hn0
 refine enter0 mixed contains21.A noC [AV.v (Value.slice A0 l0.length c0), AV.fn (Fn.func 22) [] []] Try.func21 rfl rfl rfl (fun hF => ?_)
 rw [contains21.t]
 unfold contains21.F at h
 try dsimp only at h
 obtain ⟨v0_0, hr0, h⟩ := bse h
 refine ok_callm rfl (fun L0 w0 g0 lt0 => ?_)
 refine (index40.c k _ _ _ l0 v0_0 hr0 rfl w0 (hS0.later (hF.trans g0)).bare).mono ?_
 rintro e w0' ⟨rfl, hb0⟩
 refine ⟨(v0_0, ()), rfl, hb0, fun g0' => ?_⟩
 try dsimp only
 have hF := hF.trans g0'
 refine ok_if (fun hc1 => ?_) (fun hc1 => ?_)
 ·have h := bif_t h hc1
  obtain rfl := Option.some.inj h
  intro ρ L w' _ he _ _
  exact ⟨rfl, (hF.ext he).below⟩
 ·have h := bif_f h hc1
  obtain rfl := Option.some.inj h
  intro ρ L w' _ he _ _
  exact ⟨rfl, (hF.ext he).below⟩
def ref04_SameSpans.s0 (k : Nat) (l0 : List (Int × Int)) (l1 : List (Int × Int)) : Int → Option (Sum Int Bool) := fun v0_0 => bif decide (v0_0 < ((l0.length : Nat) : Int)) then ((getI l0 v0_0).bind fun r4 => (getI l1 v0_0).bind fun r6 => bif !(r4.1 == r6.1 && (r4.2 == r6.2 && true)) then (some (.inr false)) else (some (.inl (IntKind.i64.wrap (v0_0 + 1))))) else (some (.inr true))
def ref04_SameSpans.F (k : Nat) (l0 : List (Int × Int)) (l1 : List (Int × Int)) : Option Bool := bif ((l0.length : Nat) : Int) != ((l1.length : Nat) : Int) then (some false) else (iter (ref04_SameSpans.s0 k l0 l1) k 0)
abbrev ref04_SameSpans.A : Nat → LA := fun r => if r = 4 then ⟨[(5, false, [Lf.i .i64])], []⟩ else ⟨[], []⟩
set_option maxHeartbeats 4000000 in
theorem ref04_SameSpans.t (A0 : Option Addr) (n0 c0 : Nat) (A1 : Option Addr) (n1 c1 : Nat) : tree Try.prog ref04_SameSpans.A noC Try.f47 [AV.v (Value.slice A0 n0 c0), AV.v (Value.slice A1 n1 c1)] [] =
  bif ((n0 : Nat) : Int) != ((n1 : Nat) : Int) then (
   .done (AV.v (Value.bool false)) ([]))
  else (
   .loop ([Lf.i .i64]) ((0, PUnit.unit)) 0 (fun x0 =>
    bif decide (x0.1 < ((n0 : Nat) : Int)) then (
     .need (decide (0 ≤ x0.1) && decide (x0.1 < ((n0 : Nat) : Int)) && Option.isSome A0) (
     .ld (Option.map (fun x => Addr.add x (Int.toNat x0.1 * 2)) A0) ([Lf.i .i64, Lf.i .i64]) (fun x1 =>
      .need (decide (0 ≤ x0.1) && decide (x0.1 < ((n1 : Nat) : Int)) && Option.isSome A1) (
      .ld (Option.map (fun x => Addr.add x (Int.toNat x0.1 * 2)) A1) ([Lf.i .i64, Lf.i .i64]) (fun x2 =>
       bif !(x1.1 == x2.1 && (x1.2.1 == x2.2.1 && true)) then (
        .done (AV.v (Value.bool false)) ([]))
       else (
        .again 0 ([Lf.i .i64]) ((IntKind.i64.wrap (x0.1 + 1), PUnit.unit))))))))
    else (
     .done (AV.v (Value.bool true)) ([])))) := by kernel_rfl
set_option maxHeartbeats 4000000 in
theorem ref04_SameSpans.c (k : Nat) (A0 : Option Addr) (n0 c0 : Nat) (l0 : List (Int × Int)) (A1 : Option Addr) (n1 c1 : Nat) (l1 : List (Int × Int)) (r : Bool) (h : ref04_SameSpans.F k l0 l1 = some r) (hn0 : n0 = l0.length) (hn1 : n1 = l1.length) (w : World) (hS0 : SlR R34.row (fun _ => False) w A0 c0 l0) (hS1 : SlR R34.row (fun _ => False) w A1 c1 l1) : Calls Try.prog 47 (AV.gs id [AV.v (Value.slice A0 n0 c0), AV.v (Value.slice A1 n1 c1)]).toArray w fun e w' => e = .returned (((Sh.one : Sh).av (vs [Lf.b] (r, ()))).g id) ∧ Below w.heap.size w w' := by
 subst hn0
 subst hn1
 refine enter0 mixed ref04_SameSpans.A noC [AV.v (Value.slice A0 l0.length c0), AV.v (Value.slice A1 l1.length c1)] Try.func47 rfl rfl rfl (fun hF => ?_)
 rw [ref04_SameSpans.t]
 unfold ref04_SameSpans.F at h
 try dsimp only at h
 refine ok_if (fun hc1 => ?_) (fun hc1 => ?_)
 ·have h := bif_t h hc1
  obtain rfl := Option.some.inj h
  intro ρ L w' _ he _ _
  exact ⟨rfl, (hF.ext he).below⟩
 ·have h := bif_f h hc1
  obtain ⟨I0, hI0⟩ : ∃ I : Nat → Tup [Lf.i .i64] → (Nat → Prop) → World → Prop, I = (fun m_ y L w' => ∃ (v0_0 : Int), y = (v0_0, ()) ∧ iter (ref04_SameSpans.s0 k l0 l1) m_ v0_0 = some r ∧ Fine (fun _ => False) w L w') := ⟨_, rfl⟩
  refine ok_loop I0 k (by rw [hI0]; exact ⟨_, rfl, h, hF⟩) ?_
  clear h
  intro m_ y L0 w0 hy
  rw [hI0] at hy
  obtain ⟨v0_0, rfl, h, hF⟩ := hy
  obtain ⟨m0, o0, rfl, h, hl0, hr_0⟩ := iter_some h
  unfold ref04_SameSpans.s0 at h
  try dsimp only at h
  try dsimp only
  refine ok_if (fun hc3 => ?_) (fun hc3 => ?_)
  ·have h := bif_t h hc3
   obtain ⟨r4, hr5, h⟩ := bse h
   refine ok_need (getI_need (hS0.later hF) hr5) ?_
   refine ok_get hS0 hF hr5 (by simp) (fun cs hcs => ⟨(r4.1, r4.2, ()), hcs.symm, ?_⟩)
   try dsimp only
   obtain ⟨r6, hr7, h⟩ := bse h
   refine ok_need (getI_need (hS1.later hF) hr7) ?_
   refine ok_get hS1 hF hr7 (by simp) (fun cs hcs => ⟨(r6.1, r6.2, ()), hcs.symm, ?_⟩)
   try dsimp only
   refine ok_if (fun hc8 => ?_) (fun hc8 => ?_)
   ·have h := bif_t h hc8
    obtain rfl := Option.some.inj h
    obtain rfl := hr_0 _ rfl
    intro ρ L w' _ he _ _
    exact ⟨rfl, (hF.ext he).below⟩
   ·have h := bif_f h hc8
    obtain rfl := Option.some.inj h
    have h := hl0 _ rfl
    exact ok_again (I := I0) m0 (Nat.lt_succ_self _) (fun L w' he => by rw [hI0]; exact ⟨_, rfl, h, hF.trans he.fine⟩)
  ·have h := bif_f h hc3
   obtain rfl := Option.some.inj h
   obtain rfl := hr_0 _ rfl
   intro ρ L w' _ he _ _
   exact ⟨rfl, (hF.ext he).below⟩
def ref01_Same.F (k : Nat) (l0 : List Int) (l1 : List Int) : Option Bool := bif ByteArray.toList (strOfNums l0) == ByteArray.toList (strOfNums l1) then (some true) else (some false)
abbrev ref01_Same.A : Nat → LA := noA
set_option maxHeartbeats 4000000 in
theorem ref01_Same.t (A0 : Option Addr) (n0 c0 : Nat) (A1 : Option Addr) (n1 c1 : Nat) : tree Try.prog ref01_Same.A noC Try.f16 [AV.v (Value.slice A0 n0 c0), AV.v (Value.slice A1 n1 c1)] [] =
  .sem (convert 23 9 (Value.slice A0 n0 c0)) ([Lf.s]) (Sh.one) (fun x0 =>
   .sem (convert 23 9 (Value.slice A1 n1 c1)) ([Lf.s]) (Sh.one) (fun x1 =>
    bif ByteArray.toList x0.1 == ByteArray.toList x1.1 then (
     .done (AV.v (Value.bool true)) ([]))
    else (
     .done (AV.v (Value.bool false)) ([])))) := by kernel_rfl
set_option maxHeartbeats 4000000 in
theorem ref01_Same.c (k : Nat) (A0 : Option Addr) (n0 c0 : Nat) (l0 : List Int) (A1 : Option Addr) (n1 c1 : Nat) (l1 : List Int) (r : Bool) (h : ref01_Same.F k l0 l1 = some r) (hn0 : n0 = l0.length) (hn1 : n1 = l1.length) (w : World) (hS0 : SlR R23.row (fun _ => False) w A0 c0 l0) (hS1 : SlR R23.row (fun _ => False) w A1 c1 l1) : Calls Try.prog 16 (AV.gs id [AV.v (Value.slice A0 n0 c0), AV.v (Value.slice A1 n1 c1)]).toArray w fun e w' => e = .returned (((Sh.one : Sh).av (vs [Lf.b] (r, ()))).g id) ∧ Below w.heap.size w w' := by
 subst hn0
 subst hn1
 refine enter0 mixed ref01_Same.A noC [AV.v (Value.slice A0 l0.length c0), AV.v (Value.slice A1 l1.length c1)] Try.func16 rfl rfl rfl (fun hF => ?_)
 rw [ref01_Same.t]
 unfold ref01_Same.F at h
 try dsimp only at h
 refine ok_str (R := R23) (fun _ => rfl) rfl rfl rfl rfl (hS0.later hF) (fun L0 w0 g0 => ?_)
 try dsimp only
 have hF := hF.trans g0
 refine ok_str (R := R23) (fun _ => rfl) rfl rfl rfl rfl (hS1.later hF) (fun L1 w1 g1 => ?_)
 try dsimp only
 have hF := hF.trans g1
 refine ok_if (fun hc1 => ?_) (fun hc1 => ?_)
 ·have h := bif_t h hc1
  obtain rfl := Option.some.inj h
  intro ρ L w' _ he _ _
  exact ⟨rfl, (hF.ext he).below⟩
 ·have h := bif_f h hc1
  obtain rfl := Option.some.inj h
  intro ρ L w' _ he _ _
  exact ⟨rfl, (hF.ext he).below⟩
def ref04_one.F (k : Nat) (a0_0 : Int) (a0_1 : Int) (a0_2 : Int) (a0_3 : Int) (a0_4 : Int) (a0_5 : Bool) (l0_6 : List Int) (l0_7 : List (Int × Int)) (a1_0 : Int) (a1_1 : Int) (a1_2 : Int) (a1_3 : Int) (a1_4 : Int) (a1_5 : Bool) (l1_6 : List Int) (l1_7 : List (Int × Int)) : Option Bool := bif a0_0 == a1_0 then (bif a0_1 == a1_1 then (bif a0_2 == a1_2 then (bif a0_3 == a1_3 then (bif a0_4 == a1_4 then (bif a0_5 then (bif a1_5 then ((ref01_Same.F k l0_6 l1_6).bind fun v0_0 => bif v0_0 then ((ref04_SameSpans.F k l0_7 l1_7).bind fun v1_0 => bif v1_0 then (some true) else (some false)) else (some false)) else (some false)) else (bif a1_5 then (some false) else ((ref01_Same.F k l0_6 l1_6).bind fun v0_0 => bif v0_0 then ((ref04_SameSpans.F k l0_7 l1_7).bind fun v1_0 => bif v1_0 then (some true) else (some false)) else (some false)))) else (some false)) else (some false)) else (some false)) else (some false)) else (some false)
abbrev ref04_one.A : Nat → LA := noA
set_option maxHeartbeats 4000000 in
theorem ref04_one.t (a0_0 : Int) (a0_1 : Int) (a0_2 : Int) (a0_3 : Int) (a0_4 : Int) (a0_5 : Bool) (A0_6 : Option Addr) (n0_6 c0_6 : Nat) (A0_7 : Option Addr) (n0_7 c0_7 : Nat) (a1_0 : Int) (a1_1 : Int) (a1_2 : Int) (a1_3 : Int) (a1_4 : Int) (a1_5 : Bool) (A1_6 : Option Addr) (n1_6 c1_6 : Nat) (A1_7 : Option Addr) (n1_7 c1_7 : Nat) : tree Try.prog ref04_one.A noC Try.f27 [AV.agg [AV.v (.int .i64 a0_0), AV.v (.int .i64 a0_1), AV.v (.int .i64 a0_2), AV.v (.int .i64 a0_3), AV.v (.int .i64 a0_4), AV.v (Value.bool a0_5), AV.v (Value.slice A0_6 n0_6 c0_6), AV.v (Value.slice A0_7 n0_7 c0_7)], AV.agg [AV.v (.int .i64 a1_0), AV.v (.int .i64 a1_1), AV.v (.int .i64 a1_2), AV.v (.int .i64 a1_3), AV.v (.int .i64 a1_4), AV.v (Value.bool a1_5), AV.v (Value.slice A1_6 n1_6 c1_6), AV.v (Value.slice A1_7 n1_7 c1_7)]] [] =
  bif a0_0 == a1_0 then (
   bif a0_1 == a1_1 then (
    bif a0_2 == a1_2 then (
     bif a0_3 == a1_3 then (
      bif a0_4 == a1_4 then (
       bif a0_5 then (
        bif a1_5 then (
         .call 16 ([AV.v (Value.slice A0_6 n0_6 c0_6), AV.v (Value.slice A1_6 n1_6 c1_6)]) ([]) (Sh.one) ([Lf.b]) ([]) (fun x0 =>
          bif x0.1 then (
           .call 47 ([AV.v (Value.slice A0_7 n0_7 c0_7), AV.v (Value.slice A1_7 n1_7 c1_7)]) ([]) (Sh.one) ([Lf.b]) ([]) (fun x1 =>
            bif x1.1 then (
             .done (AV.v (Value.bool true)) ([]))
            else (
             .done (AV.v (Value.bool false)) ([]))))
          else (
           .done (AV.v (Value.bool false)) ([]))))
        else (
         .done (AV.v (Value.bool false)) ([])))
       else (
        bif a1_5 then (
         .done (AV.v (Value.bool false)) ([]))
        else (
         .call 16 ([AV.v (Value.slice A0_6 n0_6 c0_6), AV.v (Value.slice A1_6 n1_6 c1_6)]) ([]) (Sh.one) ([Lf.b]) ([]) (fun x0 =>
          bif x0.1 then (
           .call 47 ([AV.v (Value.slice A0_7 n0_7 c0_7), AV.v (Value.slice A1_7 n1_7 c1_7)]) ([]) (Sh.one) ([Lf.b]) ([]) (fun x1 =>
            bif x1.1 then (
             .done (AV.v (Value.bool true)) ([]))
            else (
             .done (AV.v (Value.bool false)) ([]))))
          else (
           .done (AV.v (Value.bool false)) ([]))))))
      else (
       .done (AV.v (Value.bool false)) ([])))
     else (
      .done (AV.v (Value.bool false)) ([])))
    else (
     .done (AV.v (Value.bool false)) ([])))
   else (
    .done (AV.v (Value.bool false)) ([])))
  else (
   .done (AV.v (Value.bool false)) ([])) := by kernel_rfl
set_option maxHeartbeats 4000000 in
theorem ref04_one.c (k : Nat) (a0_0 : Int) (a0_1 : Int) (a0_2 : Int) (a0_3 : Int) (a0_4 : Int) (a0_5 : Bool) (A0_6 : Option Addr) (n0_6 c0_6 : Nat) (l0_6 : List Int) (A0_7 : Option Addr) (n0_7 c0_7 : Nat) (l0_7 : List (Int × Int)) (a1_0 : Int) (a1_1 : Int) (a1_2 : Int) (a1_3 : Int) (a1_4 : Int) (a1_5 : Bool) (A1_6 : Option Addr) (n1_6 c1_6 : Nat) (l1_6 : List Int) (A1_7 : Option Addr) (n1_7 c1_7 : Nat) (l1_7 : List (Int × Int)) (r : Bool) (h : ref04_one.F k a0_0 a0_1 a0_2 a0_3 a0_4 a0_5 l0_6 l0_7 a1_0 a1_1 a1_2 a1_3 a1_4 a1_5 l1_6 l1_7 = some r) (hn0_6 : n0_6 = l0_6.length) (hn0_7 : n0_7 = l0_7.length) (hn1_6 : n1_6 = l1_6.length) (hn1_7 : n1_7 = l1_7.length) (w : World) (hS0_6 : SlR R23.row (fun _ => False) w A0_6 c0_6 l0_6) (hS0_7 : SlR R34.row (fun _ => False) w A0_7 c0_7 l0_7) (hS1_6 : SlR R23.row (fun _ => False) w A1_6 c1_6 l1_6) (hS1_7 : SlR R34.row (fun _ => False) w A1_7 c1_7 l1_7) : Calls Try.prog 27 (AV.gs id [AV.agg [AV.v (.int .i64 a0_0), AV.v (.int .i64 a0_1), AV.v (.int .i64 a0_2), AV.v (.int .i64 a0_3), AV.v (.int .i64 a0_4), AV.v (Value.bool a0_5), AV.v (Value.slice A0_6 n0_6 c0_6), AV.v (Value.slice A0_7 n0_7 c0_7)], AV.agg [AV.v (.int .i64 a1_0), AV.v (.int .i64 a1_1), AV.v (.int .i64 a1_2), AV.v (.int .i64 a1_3), AV.v (.int .i64 a1_4), AV.v (Value.bool a1_5), AV.v (Value.slice A1_6 n1_6 c1_6), AV.v (Value.slice A1_7 n1_7 c1_7)]]).toArray w fun e w' => e = .returned (((Sh.one : Sh).av (vs [Lf.b] (r, ()))).g id) ∧ Below w.heap.size w w' := by
 subst hn0_6
 subst hn0_7
 subst hn1_6
 subst hn1_7
 refine enter0 mixed ref04_one.A noC [AV.agg [AV.v (.int .i64 a0_0), AV.v (.int .i64 a0_1), AV.v (.int .i64 a0_2), AV.v (.int .i64 a0_3), AV.v (.int .i64 a0_4), AV.v (Value.bool a0_5), AV.v (Value.slice A0_6 l0_6.length c0_6), AV.v (Value.slice A0_7 l0_7.length c0_7)], AV.agg [AV.v (.int .i64 a1_0), AV.v (.int .i64 a1_1), AV.v (.int .i64 a1_2), AV.v (.int .i64 a1_3), AV.v (.int .i64 a1_4), AV.v (Value.bool a1_5), AV.v (Value.slice A1_6 l1_6.length c1_6), AV.v (Value.slice A1_7 l1_7.length c1_7)]] Try.func27 rfl rfl rfl (fun hF => ?_)
 rw [ref04_one.t]
 unfold ref04_one.F at h
 try dsimp only at h
 refine ok_if (fun hc1 => ?_) (fun hc1 => ?_)
 ·have h := bif_t h hc1
  refine ok_if (fun hc2 => ?_) (fun hc2 => ?_)
  ·have h := bif_t h hc2
   refine ok_if (fun hc3 => ?_) (fun hc3 => ?_)
   ·have h := bif_t h hc3
    refine ok_if (fun hc4 => ?_) (fun hc4 => ?_)
    ·have h := bif_t h hc4
     refine ok_if (fun hc5 => ?_) (fun hc5 => ?_)
     ·have h := bif_t h hc5
      refine ok_if (fun hc6 => ?_) (fun hc6 => ?_)
      ·have h := bif_t h hc6
       refine ok_if (fun hc7 => ?_) (fun hc7 => ?_)
       ·have h := bif_t h hc7
        obtain ⟨v0_0, hr0, h⟩ := bse h
        refine ok_callm rfl (fun L0 w0 g0 lt0 => ?_)
        refine (ref01_Same.c k _ _ _ l0_6 _ _ _ l1_6 v0_0 hr0 rfl rfl w0 (hS0_6.later (hF.trans g0)).bare (hS1_6.later (hF.trans g0)).bare).mono ?_
        rintro e w0' ⟨rfl, hb0⟩
        refine ⟨(v0_0, ()), rfl, hb0, fun g0' => ?_⟩
        try dsimp only
        have hF := hF.trans g0'
        refine ok_if (fun hc8 => ?_) (fun hc8 => ?_)
        ·have h := bif_t h hc8
         obtain ⟨v1_0, hr1, h⟩ := bse h
         refine ok_callm rfl (fun L1 w1 g1 lt1 => ?_)
         refine (ref04_SameSpans.c k _ _ _ l0_7 _ _ _ l1_7 v1_0 hr1 rfl rfl w1 (hS0_7.later (hF.trans g1)).bare (hS1_7.later (hF.trans g1)).bare).mono ?_
         rintro e w1' ⟨rfl, hb1⟩
         refine ⟨(v1_0, ()), rfl, hb1, fun g1' => ?_⟩
         try dsimp only
         have hF := hF.trans g1'
         refine ok_if (fun hc9 => ?_) (fun hc9 => ?_)
         ·have h := bif_t h hc9
          obtain rfl := Option.some.inj h
          intro ρ L w' _ he _ _
          exact ⟨rfl, (hF.ext he).below⟩
         ·have h := bif_f h hc9
          obtain rfl := Option.some.inj h
          intro ρ L w' _ he _ _
          exact ⟨rfl, (hF.ext he).below⟩
        ·have h := bif_f h hc8
         obtain rfl := Option.some.inj h
         intro ρ L w' _ he _ _
         exact ⟨rfl, (hF.ext he).below⟩
       ·have h := bif_f h hc7
        obtain rfl := Option.some.inj h
        intro ρ L w' _ he _ _
        exact ⟨rfl, (hF.ext he).below⟩
      ·have h := bif_f h hc6
       refine ok_if (fun hc10 => ?_) (fun hc10 => ?_)
       ·have h := bif_t h hc10
        obtain rfl := Option.some.inj h
        intro ρ L w' _ he _ _
        exact ⟨rfl, (hF.ext he).below⟩
       ·have h := bif_f h hc10
        obtain ⟨v0_0, hr0, h⟩ := bse h
        refine ok_callm rfl (fun L0 w0 g0 lt0 => ?_)
        refine (ref01_Same.c k _ _ _ l0_6 _ _ _ l1_6 v0_0 hr0 rfl rfl w0 (hS0_6.later (hF.trans g0)).bare (hS1_6.later (hF.trans g0)).bare).mono ?_
        rintro e w0' ⟨rfl, hb0⟩
        refine ⟨(v0_0, ()), rfl, hb0, fun g0' => ?_⟩
        try dsimp only
        have hF := hF.trans g0'
        refine ok_if (fun hc11 => ?_) (fun hc11 => ?_)
        ·have h := bif_t h hc11
         obtain ⟨v1_0, hr1, h⟩ := bse h
         refine ok_callm rfl (fun L1 w1 g1 lt1 => ?_)
         refine (ref04_SameSpans.c k _ _ _ l0_7 _ _ _ l1_7 v1_0 hr1 rfl rfl w1 (hS0_7.later (hF.trans g1)).bare (hS1_7.later (hF.trans g1)).bare).mono ?_
         rintro e w1' ⟨rfl, hb1⟩
         refine ⟨(v1_0, ()), rfl, hb1, fun g1' => ?_⟩
         try dsimp only
         have hF := hF.trans g1'
         refine ok_if (fun hc12 => ?_) (fun hc12 => ?_)
         ·have h := bif_t h hc12
          obtain rfl := Option.some.inj h
          intro ρ L w' _ he _ _
          exact ⟨rfl, (hF.ext he).below⟩
         ·have h := bif_f h hc12
          obtain rfl := Option.some.inj h
          intro ρ L w' _ he _ _
          exact ⟨rfl, (hF.ext he).below⟩
        ·have h := bif_f h hc11
         obtain rfl := Option.some.inj h
         intro ρ L w' _ he _ _
         exact ⟨rfl, (hF.ext he).below⟩
     ·have h := bif_f h hc5
      obtain rfl := Option.some.inj h
      intro ρ L w' _ he _ _
      exact ⟨rfl, (hF.ext he).below⟩
    ·have h := bif_f h hc4
     obtain rfl := Option.some.inj h
     intro ρ L w' _ he _ _
     exact ⟨rfl, (hF.ext he).below⟩
   ·have h := bif_f h hc3
    obtain rfl := Option.some.inj h
    intro ρ L w' _ he _ _
    exact ⟨rfl, (hF.ext he).below⟩
  ·have h := bif_f h hc2
   obtain rfl := Option.some.inj h
   intro ρ L w' _ he _ _
   exact ⟨rfl, (hF.ext he).below⟩
 ·have h := bif_f h hc1
  obtain rfl := Option.some.inj h
  intro ρ L w' _ he _ _
  exact ⟨rfl, (hF.ext he).below⟩
def ref04_Same.s0 (k : Nat) (l0 : List (Int × Int × Int × Int × Int × Bool × (List Int) × (List (Int × Int)))) (l1 : List (Int × Int × Int × Int × Int × Bool × (List Int) × (List (Int × Int)))) : Int → Option (Sum Int Bool) := fun v0_0 => bif decide (v0_0 < ((l0.length : Nat) : Int)) then ((getI l0 v0_0).bind fun r4 => (getI l1 v0_0).bind fun r8 => (ref04_one.F k r4.1 r4.2.1 r4.2.2.1 r4.2.2.2.1 r4.2.2.2.2.1 r4.2.2.2.2.2.1 r4.2.2.2.2.2.2.1 r4.2.2.2.2.2.2.2 r8.1 r8.2.1 r8.2.2.1 r8.2.2.2.1 r8.2.2.2.2.1 r8.2.2.2.2.2.1 r8.2.2.2.2.2.2.1 r8.2.2.2.2.2.2.2).bind fun v3_0 => bif v3_0 then (some (.inl (IntKind.i64.wrap (v0_0 + 1)))) else (some (.inr false))) else (some (.inr true))
def ref04_Same.F (k : Nat) (l0 : List (Int × Int × Int × Int × Int × Bool × (List Int) × (List (Int × Int)))) (l1 : List (Int × Int × Int × Int × Int × Bool × (List Int) × (List (Int × Int)))) : Option Bool := bif ((l0.length : Nat) : Int) != ((l1.length : Nat) : Int) then (some false) else (iter (ref04_Same.s0 k l0 l1) k 0)
abbrev ref04_Same.A : Nat → LA := fun r => if r = 4 then ⟨[(5, false, [Lf.i .i64])], []⟩ else ⟨[], []⟩
set_option maxHeartbeats 4000000 in
theorem ref04_Same.t (A0 : Option Addr) (n0 c0 : Nat) (A1 : Option Addr) (n1 c1 : Nat) : tree Try.prog ref04_Same.A noC Try.f12 [AV.v (Value.slice A0 n0 c0), AV.v (Value.slice A1 n1 c1)] [] =
  bif ((n0 : Nat) : Int) != ((n1 : Nat) : Int) then (
   .done (AV.v (Value.bool false)) ([]))
  else (
   .loop ([Lf.i .i64]) ((0, PUnit.unit)) 0 (fun x0 =>
    bif decide (x0.1 < ((n0 : Nat) : Int)) then (
     .need (decide (0 ≤ x0.1) && decide (x0.1 < ((n0 : Nat) : Int)) && Option.isSome A0) (
     .ld (Option.map (fun x => Addr.add x (Int.toNat x0.1 * 8)) A0) ([Lf.i .i64, Lf.i .i64, Lf.i .i64, Lf.i .i64, Lf.i .i64, Lf.b, Lf.sl, Lf.sl]) (fun x1 =>
      .need (decide (0 ≤ x0.1) && decide (x0.1 < ((n1 : Nat) : Int)) && Option.isSome A1) (
      .ld (Option.map (fun x => Addr.add x (Int.toNat x0.1 * 8)) A1) ([Lf.i .i64, Lf.i .i64, Lf.i .i64, Lf.i .i64, Lf.i .i64, Lf.b, Lf.sl, Lf.sl]) (fun x2 =>
       .call 27 ([AV.agg [AV.v (.int .i64 x1.1), AV.v (.int .i64 x1.2.1), AV.v (.int .i64 x1.2.2.1), AV.v (.int .i64 x1.2.2.2.1), AV.v (.int .i64 x1.2.2.2.2.1), AV.v (Value.bool x1.2.2.2.2.2.1), AV.v (Value.slice x1.2.2.2.2.2.2.1.1 x1.2.2.2.2.2.2.1.2.1 x1.2.2.2.2.2.2.1.2.2), AV.v (Value.slice x1.2.2.2.2.2.2.2.1.1 x1.2.2.2.2.2.2.2.1.2.1 x1.2.2.2.2.2.2.2.1.2.2)], AV.agg [AV.v (.int .i64 x2.1), AV.v (.int .i64 x2.2.1), AV.v (.int .i64 x2.2.2.1), AV.v (.int .i64 x2.2.2.2.1), AV.v (.int .i64 x2.2.2.2.2.1), AV.v (Value.bool x2.2.2.2.2.2.1), AV.v (Value.slice x2.2.2.2.2.2.2.1.1 x2.2.2.2.2.2.2.1.2.1 x2.2.2.2.2.2.2.1.2.2), AV.v (Value.slice x2.2.2.2.2.2.2.2.1.1 x2.2.2.2.2.2.2.2.1.2.1 x2.2.2.2.2.2.2.2.1.2.2)]]) ([]) (Sh.one) ([Lf.b]) ([]) (fun x3 =>
        bif x3.1 then (
         .again 0 ([Lf.i .i64]) ((IntKind.i64.wrap (x0.1 + 1), PUnit.unit)))
        else (
         .done (AV.v (Value.bool false)) ([]))))))))
    else (
     .done (AV.v (Value.bool true)) ([])))) := by kernel_rfl
set_option maxHeartbeats 4000000 in
theorem ref04_Same.c (k : Nat) (A0 : Option Addr) (n0 c0 : Nat) (l0 : List (Int × Int × Int × Int × Int × Bool × (List Int) × (List (Int × Int)))) (A1 : Option Addr) (n1 c1 : Nat) (l1 : List (Int × Int × Int × Int × Int × Bool × (List Int) × (List (Int × Int)))) (r : Bool) (h : ref04_Same.F k l0 l1 = some r) (hn0 : n0 = l0.length) (hn1 : n1 = l1.length) (w : World) (hS0 : SlR R22 (fun _ => False) w A0 c0 l0) (hS1 : SlR R22 (fun _ => False) w A1 c1 l1) : Calls Try.prog 12 (AV.gs id [AV.v (Value.slice A0 n0 c0), AV.v (Value.slice A1 n1 c1)]).toArray w fun e w' => e = .returned (((Sh.one : Sh).av (vs [Lf.b] (r, ()))).g id) ∧ Below w.heap.size w w' := by
 subst hn0
 subst hn1
 refine enter0 mixed ref04_Same.A noC [AV.v (Value.slice A0 l0.length c0), AV.v (Value.slice A1 l1.length c1)] Try.func12 rfl rfl rfl (fun hF => ?_)
 rw [ref04_Same.t]
 unfold ref04_Same.F at h
 try dsimp only at h
 refine ok_if (fun hc1 => ?_) (fun hc1 => ?_)
 ·have h := bif_t h hc1
  obtain rfl := Option.some.inj h
  intro ρ L w' _ he _ _
  exact ⟨rfl, (hF.ext he).below⟩
 ·have h := bif_f h hc1
  obtain ⟨I0, hI0⟩ : ∃ I : Nat → Tup [Lf.i .i64] → (Nat → Prop) → World → Prop, I = (fun m_ y L w' => ∃ (v0_0 : Int), y = (v0_0, ()) ∧ iter (ref04_Same.s0 k l0 l1) m_ v0_0 = some r ∧ Fine (fun _ => False) w L w') := ⟨_, rfl⟩
  refine ok_loop I0 k (by rw [hI0]; exact ⟨_, rfl, h, hF⟩) ?_
  clear h
  intro m_ y L0 w0 hy
  rw [hI0] at hy
  obtain ⟨v0_0, rfl, h, hF⟩ := hy
  obtain ⟨m0, o0, rfl, h, hl0, hr_0⟩ := iter_some h
  unfold ref04_Same.s0 at h
  try dsimp only at h
  try dsimp only
  refine ok_if (fun hc3 => ?_) (fun hc3 => ?_)
  ·have h := bif_t h hc3
   obtain ⟨r4, hr5, h⟩ := bse h
   refine ok_need (getI_need (hS0.later hF) hr5) ?_
   refine ok_get hS0 hF hr5 (by simp) (fun cs hcs => ?_)
   obtain ⟨A1_6, q1_6, c1_6, A1_7, q1_7, c1_7, rfl, hm1_6, hE1_6, hm1_7, hE1_7⟩ := hcs
   subst hm1_6
   subst hm1_7
   refine ⟨(r4.1, r4.2.1, r4.2.2.1, r4.2.2.2.1, r4.2.2.2.2.1, r4.2.2.2.2.2.1, (A1_6, (r4.2.2.2.2.2.2.1).length, c1_6), (A1_7, (r4.2.2.2.2.2.2.2).length, c1_7), ()), rfl, ?_⟩
   try dsimp only
   obtain ⟨r8, hr9, h⟩ := bse h
   refine ok_need (getI_need (hS1.later hF) hr9) ?_
   refine ok_get hS1 hF hr9 (by simp) (fun cs hcs => ?_)
   obtain ⟨A2_6, q2_6, c2_6, A2_7, q2_7, c2_7, rfl, hm2_6, hE2_6, hm2_7, hE2_7⟩ := hcs
   subst hm2_6
   subst hm2_7
   refine ⟨(r8.1, r8.2.1, r8.2.2.1, r8.2.2.2.1, r8.2.2.2.2.1, r8.2.2.2.2.2.1, (A2_6, (r8.2.2.2.2.2.2.1).length, c2_6), (A2_7, (r8.2.2.2.2.2.2.2).length, c2_7), ()), rfl, ?_⟩
   try dsimp only
   obtain ⟨v3_0, hr3, h⟩ := bse h
   refine ok_callm rfl (fun L3 w3 g3 lt3 => ?_)
   refine (ref04_one.c k r4.1 r4.2.1 r4.2.2.1 r4.2.2.2.1 r4.2.2.2.2.1 r4.2.2.2.2.2.1 _ _ _ r4.2.2.2.2.2.2.1 _ _ _ r4.2.2.2.2.2.2.2 r8.1 r8.2.1 r8.2.2.1 r8.2.2.2.1 r8.2.2.2.2.1 r8.2.2.2.2.2.1 _ _ _ r8.2.2.2.2.2.2.1 _ _ _ r8.2.2.2.2.2.2.2 v3_0 hr3 rfl rfl rfl rfl w3 (hE1_6.later (hF.trans g3)).bare (hE1_7.later (hF.trans g3)).bare (hE2_6.later (hF.trans g3)).bare (hE2_7.later (hF.trans g3)).bare).mono ?_
   rintro e w3' ⟨rfl, hb3⟩
   refine ⟨(v3_0, ()), rfl, hb3, fun g3' => ?_⟩
   try dsimp only
   have hF := hF.trans g3'
   refine ok_if (fun hc12 => ?_) (fun hc12 => ?_)
   ·have h := bif_t h hc12
    obtain rfl := Option.some.inj h
    have h := hl0 _ rfl
    exact ok_again (I := I0) m0 (Nat.lt_succ_self _) (fun L w' he => by rw [hI0]; exact ⟨_, rfl, h, hF.trans he.fine⟩)
   ·have h := bif_f h hc12
    obtain rfl := Option.some.inj h
    obtain rfl := hr_0 _ rfl
    intro ρ L w' _ he _ _
    exact ⟨rfl, (hF.ext he).below⟩
  ·have h := bif_f h hc3
   obtain rfl := Option.some.inj h
   obtain rfl := hr_0 _ rfl
   intro ρ L w' _ he _ _
   exact ⟨rfl, (hF.ext he).below⟩
end Go.Proofs.Ytpdchohbmmfemaa.X
