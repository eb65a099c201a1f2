import Derived.Test.YtpdchohbmmfemaazRxU
import Derived.Test.YtpdchohbmmfemaazRxSeat
import Derived.Test.YtpdchohbmmfemaaProg
import Derived.Test.YtpdchohbmmfemaazFa
namespace Go.Proofs.Ytpdchohbmmfemaa.X
open Go Go.RowKit Go.Proofs.YtpdchohbmmfemaaW.Rx
set_option linter.unusedVariables false
set_option linter.unusedSimpArgs false
set_option maxRecDepth 10000
def RevAt61 {α : Type} (xs ys : List α) (i : Nat) : Prop := ys.length = xs.length ∧ ∀ k, k < xs.length → ys[k]? = if k < i ∨ xs.length - 1 - i < k then xs[xs.length - 1 - k]? else xs[k]?
theorem RevAt61.step {α : Type} {xs ys : List α} {i : Nat} {a b : α} (h : RevAt61 xs ys i) (hi : i < xs.length - 1 - i) (ha : ys[i]? = some a) (hb : ys[xs.length - 1 - i]? = some b) : RevAt61 xs ((ys.set i b).set (xs.length - 1 - i) a) (i + 1) := by
 obtain ⟨h1, h2⟩ := h
 refine ⟨by simp [h1], fun k hk => ?_⟩
 rw [List.getElem?_set, List.length_set, List.getElem?_set]
 have ea := h2 i (by omega)
 rw [if_neg (by omega), ha] at ea
 have eb := h2 (xs.length - 1 - i) (by omega)
 rw [if_neg (by omega), hb] at eb
 have ek := h2 k hk
 by_cases k1 : xs.length - 1 - i = k
 ·subst k1
  rw [if_pos rfl, if_pos (by omega), if_pos (by omega), show xs.length - 1 - (xs.length - 1 - i) = i by omega]
  exact ea
 ·rw [if_neg k1]
  by_cases k2 : i = k
  ·subst k2
   rw [if_pos rfl, if_pos (by omega), if_pos (by omega)]
   exact eb
  ·rw [if_neg k2, ek]
   by_cases k3 : k < i ∨ xs.length - 1 - i < k
   ·rw [if_pos k3, if_pos (by omega)]
   ·rw [if_neg k3, if_neg (by omega)]
theorem RevAt61.fin {α : Type} {xs ys : List α} {i : Nat} (h : RevAt61 xs ys i) (hi : xs.length - 1 - i ≤ i) : ys = xs.reverse := by
 obtain ⟨h1, h2⟩ := h
 apply List.ext_getElem?
 intro k
 by_cases hk : k < xs.length
 ·rw [h2 k hk, List.getElem?_reverse hk]
  split
  ·rfl
  ·rw [show k = xs.length - 1 - k by omega]
   congr 1
   omega
 ·rw [List.getElem?_eq_none (by omega), List.getElem?_eq_none (by simp; omega)]
abbrev slices_Reverse_api_Span_api_Span.A : Nat → LA := fun r => if r = 1 then ⟨[(2, false, [Lf.i .i64]), (3, false, [Lf.i .i64])], []⟩ else ⟨[], []⟩
set_option maxHeartbeats 4000000 in
theorem slices_Reverse_api_Span_api_Span.t (A0 : Option Addr) (n0 c0 : Nat) : tree Try.prog slices_Reverse_api_Span_api_Span.A noC Try.f61 [AV.v (Value.slice A0 n0 c0)] [] =
  .loop ([Lf.i .i64, Lf.i .i64]) ((0, IntKind.i64.wrap ((n0 : Int) - 1), PUnit.unit)) 0 (fun x0 =>
   bif decide (x0.1 < x0.2.1) then (
    .need (decide (0 ≤ x0.2.1) && decide (x0.2.1 < (n0 : Int)) && Option.isSome A0) (
    .ld (Option.map (fun x => Addr.add x (Int.toNat x0.2.1 * 2)) A0) ([Lf.i .i64, Lf.i .i64]) (fun x1 =>
     .need (decide (0 ≤ x0.1) && decide (x0.1 < (n0 : Int)) && Option.isSome A0) (
     .ld (Option.map (fun x => Addr.add x (Int.toNat x0.1 * 2)) A0) ([Lf.i .i64, Lf.i .i64]) (fun x2 =>
      .need (decide (0 ≤ x0.1) && decide (x0.1 < (n0 : Int)) && Option.isSome A0) (
      .sto (Option.map (fun x => Addr.add x (Int.toNat x0.1 * 2)) A0) ([AV.v (.int .i64 x1.1), AV.v (.int .i64 x1.2.1)]) ([]) (
      .need (decide (0 ≤ x0.2.1) && decide (x0.2.1 < (n0 : Int)) && Option.isSome A0) (
      .sto (Option.map (fun x => Addr.add x (Int.toNat x0.2.1 * 2)) A0) ([AV.v (.int .i64 x2.1), AV.v (.int .i64 x2.2.1)]) ([]) (
      .again 0 ([Lf.i .i64, Lf.i .i64]) ((IntKind.i64.wrap (x0.1 + 1), IntKind.i64.wrap (x0.2.1 - 1), PUnit.unit)))))))))))
   else (
    .done (AV.tup []) ([]))) := by kernel_rfl
set_option maxHeartbeats 4000000 in
theorem slices_Reverse_api_Span_api_Span.c (base : Nat) (A : Option Addr) (c : Nat) (xs : List (Int × Int)) (w : World) (ho : OwnF base (fun _ => False) w 42 R34 A c xs) : Calls Try.prog 61 #[.slice A xs.length c] w fun e w' => e = .returned (((Sh.tup [] : Sh).av (vs [] ())).g id) ∧ OwnF base (fun _ => False) w' 42 R34 A c xs.reverse ∧ Fine (blk (A, 0, 0)) w (blk (A, 0, 0)) w' := by
 have hmx := ho.sl.2.2
 refine enter0 mixed slices_Reverse_api_Span_api_Span.A noC [AV.v (Value.slice A xs.length c)] Try.func61 rfl rfl rfl (fun hF0 => ?_)
 rw [slices_Reverse_api_Span_api_Span.t]
 have hF : Fine (blk (A, 0, 0)) w (fun _ => False) w := ⟨rfl, rfl, rfl, Nat.le_refl _, fun _ _ _ => rfl, fun b h => h.elim⟩
 obtain ⟨I, hI⟩ : ∃ I : Nat → Tup [Lf.i .i64, Lf.i .i64] → (Nat → Prop) → World → Prop, I = (fun m y L w' => ∃ (i : Nat) (ys : List (Int × Int)), m + i = xs.length ∧ y = ((i : Int), (xs.length : Int) - 1 - (i : Int), ()) ∧ RevAt61 xs ys i ∧ Fine (blk (A, 0, 0)) w L w' ∧ OwnF base L w' 42 R34 A c ys) := ⟨_, rfl⟩
 have e0 : IntKind.i64.wrap ((xs.length : Int) - 1) = (xs.length : Int) - 1 - ((0 : Nat) : Int) := by rw [wrap_in] <;> omega
 refine ok_loop I xs.length (by rw [hI]; exact ⟨0, xs, rfl, by rw [e0]; rfl, ⟨rfl, fun k hk => by rw [if_neg (by omega)]⟩, hF, ho⟩) ?_
 intro m y L1 w1 hy
 rw [hI] at hy
 obtain ⟨i, ys, hm, rfl, hR, hF, ho⟩ := hy
 have hl := hR.1
 dsimp only
 refine ok_if (fun hc => ?_) (fun hc => ?_)
 ·have hlt : (i : Int) < (xs.length : Int) - 1 - (i : Int) := of_decide_eq_true hc
  have ej : (xs.length : Int) - 1 - (i : Int) = ((xs.length - 1 - i : Nat) : Int) := by omega
  obtain ⟨b, hb⟩ : ∃ b, ys[xs.length - 1 - i]? = some b := ⟨_, List.getElem?_eq_getElem (by omega)⟩
  obtain ⟨a, ha⟩ : ∃ a, ys[i]? = some a := ⟨_, List.getElem?_eq_getElem (by omega)⟩
  have gb : getI ys ((xs.length - 1 - i : Nat) : Int) = some b := by rw [getI_nat]; exact hb
  have ga : getI ys (i : Int) = some a := by rw [getI_nat]; exact ha
  rw [ej]
  refine ok_need (by have := getI_need ho.sl gb; rwa [hl] at this) ?_
  refine ok_get ho.sl (Fine.refl _ _) gb (by simp) (fun cs hcs => ⟨(b.1, b.2, ()), hcs.symm, ?_⟩)
  dsimp only
  refine ok_need (by have := getI_need ho.sl ga; rwa [hl] at this) ?_
  refine ok_get ho.sl (Fine.refl _ _) ga (by simp) (fun cs hcs => ⟨(a.1, a.2, ()), hcs.symm, ?_⟩)
  dsimp only
  refine ok_need (by have := getI_need ho.sl ga; rwa [hl] at this) ?_
  rw [← map_add0 (Option.map (fun x => Addr.add x (Int.toNat (i : Int) * 2)) A)]
  refine ok_putF (R := R34) (x := a) (x' := b) (vs := [Value.int IntKind.i64 b.1, Value.int IntKind.i64 b.2]) (Int.toNat (i : Int)) 0 ho (by rw [Int.toNat_natCast]; exact ha) (Nat.le_of_ble_eq_true rfl) rfl (fun _ => rfl) (fun L2 w2 ho2 g2 hid2 => ?_)
  have hF2 := Fine.own hF g2 (fun b hb => Or.inl hb) hid2
  rw [Int.toNat_natCast] at ho2
  have hb2 : (ys.set i b)[xs.length - 1 - i]? = some b := by rw [List.getElem?_set, if_neg (by omega)]; exact hb
  have gb2 : getI (ys.set i b) ((xs.length - 1 - i : Nat) : Int) = some b := by rw [getI_nat]; exact hb2
  refine ok_need (by have := getI_need ho2.sl gb2; rwa [List.length_set, hl] at this) ?_
  rw [← map_add0 (Option.map (fun x => Addr.add x (Int.toNat ((xs.length - 1 - i : Nat) : Int) * 2)) A)]
  refine ok_putF (R := R34) (x := b) (x' := a) (vs := [Value.int IntKind.i64 a.1, Value.int IntKind.i64 a.2]) (Int.toNat ((xs.length - 1 - i : Nat) : Int)) 0 ho2 (by rw [Int.toNat_natCast]; exact hb2) (Nat.le_of_ble_eq_true rfl) rfl (fun _ => rfl) (fun L3 w3 ho3 g3 hid3 => ?_)
  have hF3 := Fine.own hF2 g3 (fun b hb => Or.inl hb) hid3
  rw [Int.toNat_natCast] at ho3
  have f1 : IntKind.i64.wrap ((i : Int) + 1) = ((i + 1 : Nat) : Int) := by rw [wrap_in] <;> omega
  have f2 : IntKind.i64.wrap (((xs.length - 1 - i : Nat) : Int) - 1) = (xs.length : Int) - 1 - ((i + 1 : Nat) : Int) := by rw [wrap_in] <;> omega
  exact ok_again (I := I) (m - 1) (by omega) (fun L w' he => by rw [hI]; exact ⟨i + 1, _, by omega, by rw [f1, f2], hR.step (by omega) ha hb, hF3.trans he.fine, ho3.later he.fine⟩)
 ·have hge : ¬ ((i : Int) < (xs.length : Int) - 1 - (i : Int)) := of_decide_eq_false hc
  obtain rfl := hR.fin (by omega)
  intro ρ L w' _ he _ _
  exact ⟨rfl, (ho.later he.fine).bare, (hF.ext he).with (fun b h => Or.inl h)⟩
theorem ok_rev34 {pin : List (Nat × Nat)} {Q : Ending → World → Prop} {J : Jt} {Lu : Nat → Prop} {wu : World} {A : Option Addr} {base c n1 : Nat} {xs : List (Int × Int)} {k : Tup [] → XT} (hn1 : n1 = xs.length) (ho : OwnF base Lu wu 42 R34 A c xs)
  (hk : ∀ L w, OwnF base L w 42 R34 A c xs.reverse → Fine (fun b => Lu b ∨ blk (A, 0, 0) b) wu L w → (∀ q, L q → Lu q ∨ wu.heap.size ≤ q) → (k ()).ok Try.prog pin Q J L w) :
  (XT.call 61 [AV.v (Value.slice A n1 c)] [] (Sh.tup []) [] [] k).ok Try.prog pin Q J Lu wu := by
 subst hn1
 refine ok_callo (blk (A, 0, 0)) rfl (fun b ⟨ad, ha, hb⟩ => hb ▸ ⟨(ho.2 ad ha).2, (ho.2 ad ha).1⟩) (fun L1 w1 g1 lt1 => ?_)
 refine (slices_Reverse_api_Span_api_Span.c base A c xs w1 (ho.later g1).bare).mono ?_
 rintro e w1' ⟨rfl, hO, hf⟩
 exact ⟨(), rfl, hf, fun g2 hid2 hv2 => hk L1 w1' (hO.vis (fun b h => hv2 b (Or.inl h))) g2 hid2⟩
abbrev f0_ack.S (a0 : Option Addr) : Nat → Prop := fun b => blk (a0, 0, 0) b
def f0_ack.s3 (k : Nat) (v2_0 : Int) : (Int × Int × Int × Int × Int × Int × Int × Bool × (List Int) × (List (Int × Int)) × ((List Int) × Int)) → Option (Sum (Int × Int × Int × Int × Int × Int × Int × Bool × (List Int) × (List (Int × Int)) × ((List Int) × Int)) (Except (Int × Int) (Int × Int × Int × Int × Int × Bool × (List Int) × (List (Int × Int)) × ((List Int) × Int)))) := fun (v3_0, v3_1, v3_2, v3_3, v3_4, v3_5, v3_6, v3_7, s3_8, s3_9, q3_a0) => bif decide (v3_1 < IntKind.i64.wrap (v2_0 + 1)) then (bif decide (0 < v3_1) then ((f0_below.F k q3_a0 (IntKind.i64.wrap (v3_0 - 2)) 5).bind fun r4 => match r4 with | .error z4 => some (.inr (.error z4)) | .ok (v4_0, qc4) => (f0_below.F k qc4 (IntKind.i64.wrap (IntKind.i64.wrap (v3_0 - 2) - v4_0)) 5).bind fun r5 => match r5 with | .error z5 => some (.inr (.error z5)) | .ok (v5_0, qc5) => bif decide ((s3_9.length + (([(IntKind.i64.wrap (IntKind.i64.wrap (IntKind.i64.wrap (v3_0 - 2) - v4_0) - v5_0), IntKind.i64.wrap (IntKind.i64.wrap (v3_0 - 2) - v4_0))] : List (Int × Int))).length) * 16 ≤ 140737488355328) then (some (.inl ((IntKind.i64.wrap (IntKind.i64.wrap (IntKind.i64.wrap (v3_0 - 2) - v4_0) - v5_0), IntKind.i64.wrap (v3_1 + 1), v3_2, v3_3, v3_4, v3_5, v3_6, v3_7, s3_8, (s3_9 ++ ([(IntKind.i64.wrap (IntKind.i64.wrap (IntKind.i64.wrap (v3_0 - 2) - v4_0) - v5_0), IntKind.i64.wrap (IntKind.i64.wrap (v3_0 - 2) - v4_0))] : List (Int × Int))), qc5)))) else none) else ((f0_below.F k q3_a0 v3_0 5).bind fun r4 => match r4 with | .error z4 => some (.inr (.error z4)) | .ok (v4_0, qc4) => bif decide ((s3_9.length + (([(IntKind.i64.wrap (v3_0 - v4_0), v3_0)] : List (Int × Int))).length) * 16 ≤ 140737488355328) then (some (.inl ((IntKind.i64.wrap (v3_0 - v4_0), IntKind.i64.wrap (v3_1 + 1), v3_2, v3_3, v3_4, v3_5, v3_6, v3_7, s3_8, (s3_9 ++ ([(IntKind.i64.wrap (v3_0 - v4_0), v3_0)] : List (Int × Int))), qc4)))) else none)) else (some (.inr (.ok ((v3_2, v3_3, v3_4, v3_5, v3_6, v3_7, s3_8, (s3_9.reverse), q3_a0)))))
def f0_ack.F (k : Nat) (q0 : (List Int) × Int) : Option (Except (Int × Int) (Int × Int × Int × Int × Int × Bool × (List Int) × (List (Int × Int)) × ((List Int) × Int))) := (f0_number.F k q0).bind fun r0 => match r0 with | .error z0 => some (.error z0) | .ok (v0_0, qc0) => (f0_number.F k qc0).bind fun r1 => match r1 with | .error z1 => some (.error z1) | .ok (v1_0, qc1) => (f0_below.F k qc1 31 6).bind fun r2 => match r2 with | .error z2 => some (.error z2) | .ok (v2_0, qc2) => iter (f0_ack.s3 k v2_0) k (v0_0, 0, 2, 0, 0, v1_0, 0, false, [], [], qc2)
abbrev f0_ack.A : Nat → LA := fun r => if r = 6 then ⟨[(4, false, [Lf.i .i64]), (18, false, [Lf.i .i64])], [(2001, [Lf.i .i64, Lf.i .i64, Lf.i .i64, Lf.i .i64, Lf.i .i64, Lf.b, Lf.sl, Lf.sl])]⟩ else ⟨[], []⟩
set_option maxHeartbeats 4000000 in
theorem f0_ack.t (a0 : Option Addr) : tree Try.prog f0_ack.A noC Try.f43 [AV.v (Value.pointer a0)] [] =
  .call 44 ([AV.v (Value.pointer a0)]) ([]) (Sh.one) ([Lf.i .i64]) ([]) (fun x0 =>
   .call 44 ([AV.v (Value.pointer a0)]) ([]) (Sh.one) ([Lf.i .i64]) ([]) (fun x1 =>
    .call 60 ([AV.v (Value.pointer a0), AV.v (.int .i64 31), AV.v (.int .i64 6)]) ([]) (Sh.one) ([Lf.i .i64]) ([]) (fun x2 =>
     .loop ([Lf.i .i64, Lf.i .i64, Lf.i .i64, Lf.i .i64, Lf.i .i64, Lf.i .i64, Lf.i .i64, Lf.b, Lf.sl, Lf.sl]) ((x0.1, 0, 2, 0, 0, x1.1, 0, false, (none, 0, 0), (none, 0, 0), PUnit.unit)) 0 (fun x3 =>
      bif decide (x3.2.1 < IntKind.i64.wrap (x2.1 + 1)) then (
       bif decide (0 < x3.2.1) then (
        .call 60 ([AV.v (Value.pointer a0), AV.v (.int .i64 (IntKind.i64.wrap (x3.1 - 2))), AV.v (.int .i64 5)]) ([]) (Sh.one) ([Lf.i .i64]) ([]) (fun x4 =>
         .call 60 ([AV.v (Value.pointer a0), AV.v (.int .i64 (IntKind.i64.wrap (IntKind.i64.wrap (x3.1 - 2) - x4.1))), AV.v (.int .i64 5)]) ([]) (Sh.one) ([Lf.i .i64]) ([]) (fun x5 =>
          .sem (Instr.buildSlice 34 1 { toList := [(0, Value.agg { toList := [Value.int IntKind.i64 (IntKind.i64.wrap (IntKind.i64.wrap (IntKind.i64.wrap (x3.1 - 2) - x4.1) - x5.1)), Value.int IntKind.i64 (IntKind.i64.wrap (IntKind.i64.wrap (x3.1 - 2) - x4.1))] })] }) ([Lf.sl]) (Sh.one) (fun x6 =>
           .sem (Builtin.append_ { toList := [34, 34] } 34 { toList := [Value.slice x3.2.2.2.2.2.2.2.2.2.1.1 x3.2.2.2.2.2.2.2.2.2.1.2.1 x3.2.2.2.2.2.2.2.2.2.1.2.2, Value.slice x6.1.1 x6.1.2.1 x6.1.2.2] }) ([Lf.sl]) (Sh.one) (fun x7 =>
            .again 0 ([Lf.i .i64, Lf.i .i64, Lf.i .i64, Lf.i .i64, Lf.i .i64, Lf.i .i64, Lf.i .i64, Lf.b, Lf.sl, Lf.sl]) ((IntKind.i64.wrap (IntKind.i64.wrap (IntKind.i64.wrap (x3.1 - 2) - x4.1) - x5.1), IntKind.i64.wrap (x3.2.1 + 1), x3.2.2.1, x3.2.2.2.1, x3.2.2.2.2.1, x3.2.2.2.2.2.1, x3.2.2.2.2.2.2.1, x3.2.2.2.2.2.2.2.1, (x3.2.2.2.2.2.2.2.2.1.1, x3.2.2.2.2.2.2.2.2.1.2.1, x3.2.2.2.2.2.2.2.2.1.2.2), (x7.1.1, x7.1.2.1, x7.1.2.2), PUnit.unit)))))))
       else (
        .call 60 ([AV.v (Value.pointer a0), AV.v (.int .i64 x3.1), AV.v (.int .i64 5)]) ([]) (Sh.one) ([Lf.i .i64]) ([]) (fun x4 =>
         .sem (Instr.buildSlice 34 1 { toList := [(0, Value.agg { toList := [Value.int IntKind.i64 (IntKind.i64.wrap (x3.1 - x4.1)), Value.int IntKind.i64 x3.1] })] }) ([Lf.sl]) (Sh.one) (fun x5 =>
          .sem (Builtin.append_ { toList := [34, 34] } 34 { toList := [Value.slice x3.2.2.2.2.2.2.2.2.2.1.1 x3.2.2.2.2.2.2.2.2.2.1.2.1 x3.2.2.2.2.2.2.2.2.2.1.2.2, Value.slice x5.1.1 x5.1.2.1 x5.1.2.2] }) ([Lf.sl]) (Sh.one) (fun x6 =>
           .again 0 ([Lf.i .i64, Lf.i .i64, Lf.i .i64, Lf.i .i64, Lf.i .i64, Lf.i .i64, Lf.i .i64, Lf.b, Lf.sl, Lf.sl]) ((IntKind.i64.wrap (x3.1 - x4.1), IntKind.i64.wrap (x3.2.1 + 1), x3.2.2.1, x3.2.2.2.1, x3.2.2.2.2.1, x3.2.2.2.2.2.1, x3.2.2.2.2.2.2.1, x3.2.2.2.2.2.2.2.1, (x3.2.2.2.2.2.2.2.2.1.1, x3.2.2.2.2.2.2.2.2.1.2.1, x3.2.2.2.2.2.2.2.2.1.2.2), (x6.1.1, x6.1.2.1, x6.1.2.2), PUnit.unit)))))))
      else (
       .call 61 ([AV.v (Value.slice x3.2.2.2.2.2.2.2.2.2.1.1 x3.2.2.2.2.2.2.2.2.2.1.2.1 x3.2.2.2.2.2.2.2.2.2.1.2.2)]) ([]) (Sh.tup []) ([]) ([]) (fun x4 =>
        .done (AV.agg [AV.v (.int .i64 x3.2.2.1), AV.v (.int .i64 x3.2.2.2.1), AV.v (.int .i64 x3.2.2.2.2.1), AV.v (.int .i64 x3.2.2.2.2.2.1), AV.v (.int .i64 x3.2.2.2.2.2.2.1), AV.v (Value.bool x3.2.2.2.2.2.2.2.1), AV.v (Value.slice x3.2.2.2.2.2.2.2.2.1.1 x3.2.2.2.2.2.2.2.2.1.2.1 x3.2.2.2.2.2.2.2.2.1.2.2), AV.v (Value.slice x3.2.2.2.2.2.2.2.2.2.1.1 x3.2.2.2.2.2.2.2.2.2.1.2.1 x3.2.2.2.2.2.2.2.2.2.1.2.2)]) ([]))))))) := by kernel_rfl
set_option maxHeartbeats 4000000 in
theorem f0_ack.c (k : Nat) (a0 : Option Addr) (q0 : (List Int) × Int) (A0_0 : Option Addr) (c0_0 : Nat) (r : Except (Int × Int) (Int × Int × Int × Int × Int × Bool × (List Int) × (List (Int × Int)) × ((List Int) × Int))) (h : f0_ack.F k q0 = some r)  (w : World) (hW0 : OwnO 0 (fun _ => False) w 52 RW52 a0 1 [((A0_0, q0.1.length, c0_0), q0.2)]) (hS0_0 : SlR R23.row (f0_ack.S a0) w A0_0 c0_0 q0.1) : Calls Try.prog 43 (AV.gs id [AV.v (Value.pointer a0)]).toArray w fun e w' => match r with | .ok r => ∃ (B6 : Option Addr) (d6 : Nat) (B7 : Option Addr) (d7 : Nat), e = .returned (((Sh.agg 8 : Sh).av (vs [Lf.i .i64, Lf.i .i64, Lf.i .i64, Lf.i .i64, Lf.i .i64, Lf.b, Lf.sl, Lf.sl] (r.1, r.2.1, r.2.2.1, r.2.2.2.1, r.2.2.2.2.1, r.2.2.2.2.2.1, (B6, (r.2.2.2.2.2.2.1).length, d6), (B7, (r.2.2.2.2.2.2.2.1).length, d7), ()))).g id) ∧ Fine (f0_ack.S a0) w (f0_ack.S a0) w' ∧ OwnO 0 (fun _ => False) w' 52 RW52 a0 1 [((A0_0, r.2.2.2.2.2.2.2.2.1.length, c0_0), r.2.2.2.2.2.2.2.2.2)] ∧ OwnF w.heap.size (fun b => b < w.heap.size) w' 5 R23 B6 d6 r.2.2.2.2.2.2.1 ∧ OwnF w.heap.size (fun b => b < w.heap.size) w' 42 R34 B7 d7 r.2.2.2.2.2.2.2.1 ∧ Dj B7 B6 ∧ r.2.2.2.2.2.2.2.2.1 = q0.1 | .error z => e = .panicked [{ v := .iface 48 (.agg #[.int .i64 z.1, .int .i64 z.2]), recovered := false }] ∧ Fine (f0_ack.S a0) w (f0_ack.S a0) w' := by
 refine enter0 mixed f0_ack.A noC [AV.v (Value.pointer a0)] Try.func43 rfl rfl rfl (fun hF => ?_)
 have hA_a0 : Option.isSome a0 = true := hW0.sl.some (by simp)
 have hN_a0 : Option.isNone a0 = false := by cases a0 <;> simp_all
 have hF : Fine (f0_ack.S a0) w (fun _ => False) w := ⟨rfl, rfl, rfl, Nat.le_refl _, fun _ _ _ => rfl, fun b h => h.elim⟩
 have hm0 : ∀ b, blk (a0, 0, 0) b → (f0_ack.S a0) b ∨ w.heap.size ≤ b := fun b hb => Or.inl hb
 rw [f0_ack.t]
 unfold f0_ack.F at h
 try dsimp only at h
 obtain ⟨r0, hr0, h⟩ := bse h
 have hBv0 : ∀ b, (f0_number.S a0) b → ¬ _ ∧ b < _ := fun b hb => by exact ⟨(hW0.lt b hb).2.1, hW0.lt1 b hb⟩
 have hBm0 : ∀ b, (f0_number.S a0) b → (f0_ack.S a0) b ∨ w.heap.size ≤ b := fun b hb => by exact hm0 b hb
 rcases r0 with z0 | r0
 ·try dsimp only at h
  obtain rfl := Option.some.inj h
  refine ok_callp rfl (fun L0 w0 g0 lt0 => ?_)
  refine (f0_number.c k _ q0 _ _ _ hr0  w0 (hW0.later g0).bare' (hS0_0.later ((hF.trans g0).with hBm0))).mono ?_
  rintro e w0' ⟨rfl, hf0⟩
  exact ⟨_, rfl, rfl, (hF.trans g0).past hf0 hBm0⟩
 try dsimp only at h
 obtain ⟨v0_0, qc0⟩ := r0
 try dsimp only at h
 refine ok_callo (f0_number.S a0) rfl hBv0 (fun L0 w0 g0 lt0 => ?_)
 refine (f0_number.c k _ q0 _ _ (.ok (v0_0, qc0)) hr0  w0 (hW0.later g0).bare' (hS0_0.later ((hF.trans g0).with hBm0))).mono ?_
 rintro e w0' ⟨rfl, hf0, hWc0, hq0_0⟩
 refine ⟨(v0_0, ()), rfl, hf0, fun g0' hid0 hv0 => ?_⟩
 try dsimp only
 have hSc0_0 : SlR R23.row (f0_ack.S a0) w A0_0 c0_0 qc0.1 := by rw [hq0_0]; exact hS0_0
 have hmc0 := hm0
 have hWc0 := hWc0.vis (fun b hb => hv0 b (Or.inl hb))
 have hF := Fine.own hF g0' hBm0 hid0
 obtain ⟨r1, hr1, h⟩ := bse h
 have hBv1 : ∀ b, (f0_number.S a0) b → ¬ _ ∧ b < _ := fun b hb => by exact ⟨(hWc0.lt b hb).2.1, hWc0.lt1 b hb⟩
 have hBm1 : ∀ b, (f0_number.S a0) b → (f0_ack.S a0) b ∨ w.heap.size ≤ b := fun b hb => by exact hmc0 b hb
 rcases r1 with z1 | r1
 ·try dsimp only at h
  obtain rfl := Option.some.inj h
  refine ok_callp rfl (fun L1 w1 g1 lt1 => ?_)
  refine (f0_number.c k _ qc0 _ _ _ hr1  w1 (hWc0.later g1).bare' (hSc0_0.later ((hF.trans g1).with hBm1))).mono ?_
  rintro e w1' ⟨rfl, hf1⟩
  exact ⟨_, rfl, rfl, (hF.trans g1).past hf1 hBm1⟩
 try dsimp only at h
 obtain ⟨v1_0, qc1⟩ := r1
 try dsimp only at h
 refine ok_callo (f0_number.S a0) rfl hBv1 (fun L1 w1 g1 lt1 => ?_)
 refine (f0_number.c k _ qc0 _ _ (.ok (v1_0, qc1)) hr1  w1 (hWc0.later g1).bare' (hSc0_0.later ((hF.trans g1).with hBm1))).mono ?_
 rintro e w1' ⟨rfl, hf1, hWc1, hq1_0⟩
 refine ⟨(v1_0, ()), rfl, hf1, fun g1' hid1 hv1 => ?_⟩
 try dsimp only
 have hSc1_0 : SlR R23.row (f0_ack.S a0) w A0_0 c0_0 qc1.1 := by rw [hq1_0]; exact hSc0_0
 have hmc1 := hmc0
 have hWc1 := hWc1.vis (fun b hb => hv1 b (Or.inl hb))
 have hF := Fine.own hF g1' hBm1 hid1
 obtain ⟨r2, hr2, h⟩ := bse h
 have hBv2 : ∀ b, (f0_below.S a0) b → ¬ _ ∧ b < _ := fun b hb => by exact ⟨(hWc1.lt b hb).2.1, hWc1.lt1 b hb⟩
 have hBm2 : ∀ b, (f0_below.S a0) b → (f0_ack.S a0) b ∨ w.heap.size ≤ b := fun b hb => by exact hmc1 b hb
 rcases r2 with z2 | r2
 ·try dsimp only at h
  obtain rfl := Option.some.inj h
  refine ok_callp rfl (fun L2 w2 g2 lt2 => ?_)
  refine (f0_below.c k _ qc1 _ _ 31 6 _ hr2  w2 (hWc1.later g2).bare' (hSc1_0.later ((hF.trans g2).with hBm2))).mono ?_
  rintro e w2' ⟨rfl, hf2⟩
  exact ⟨_, rfl, rfl, (hF.trans g2).past hf2 hBm2⟩
 try dsimp only at h
 obtain ⟨v2_0, qc2⟩ := r2
 try dsimp only at h
 refine ok_callo (f0_below.S a0) rfl hBv2 (fun L2 w2 g2 lt2 => ?_)
 refine (f0_below.c k _ qc1 _ _ 31 6 (.ok (v2_0, qc2)) hr2  w2 (hWc1.later g2).bare' (hSc1_0.later ((hF.trans g2).with hBm2))).mono ?_
 rintro e w2' ⟨rfl, hf2, hWc2, hq2_0⟩
 refine ⟨(v2_0, ()), rfl, hf2, fun g2' hid2 hv2 => ?_⟩
 try dsimp only
 have hSc2_0 : SlR R23.row (f0_ack.S a0) w A0_0 c0_0 qc2.1 := by rw [hq2_0]; exact hSc1_0
 have hmc2 := hmc1
 have hWc2 := hWc2.vis (fun b hb => hv2 b (Or.inl hb))
 have hF := Fine.own hF g2' hBm2 hid2
 obtain ⟨I3, hI3⟩ : ∃ I : Nat → Tup [Lf.i .i64, Lf.i .i64, Lf.i .i64, Lf.i .i64, Lf.i .i64, Lf.i .i64, Lf.i .i64, Lf.b, Lf.sl, Lf.sl] → (Nat → Prop) → World → Prop, I = (fun m_ y L w' => ∃ (v3_0 : Int) (v3_1 : Int) (v3_2 : Int) (v3_3 : Int) (v3_4 : Int) (v3_5 : Int) (v3_6 : Int) (v3_7 : Bool) (A3_8 : Option Addr) (c3_8 : Nat) (s3_8 : List Int) (A3_9 : Option Addr) (c3_9 : Nat) (s3_9 : List (Int × Int)) (q3_a0 : (List Int) × Int), y = (v3_0, v3_1, v3_2, v3_3, v3_4, v3_5, v3_6, v3_7, (A3_8, s3_8.length, c3_8), (A3_9, s3_9.length, c3_9), ()) ∧ iter (f0_ack.s3 k v2_0) m_ (v3_0, v3_1, v3_2, v3_3, v3_4, v3_5, v3_6, v3_7, s3_8, s3_9, q3_a0) = some r ∧ Fine (f0_ack.S a0) w L w' ∧ OwnF w.heap.size L w' 5 R23 A3_8 c3_8 s3_8 ∧ OwnF w.heap.size L w' 42 R34 A3_9 c3_9 s3_9 ∧ OwnO 0 L w' 52 RW52 a0 1 [((A0_0, q3_a0.1.length, c0_0), q3_a0.2)] ∧ q3_a0.1 = q0.1 ∧ Dj A3_9 A3_8 ∧ Dj a0 A3_8 ∧ Dj a0 A3_9) := ⟨_, rfl⟩
 refine ok_loop I3 k (by rw [hI3]; exact ⟨_, _, _, _, _, _, _, _, none, 0, [], none, 0, [], qc2, rfl, h, hF, OwnF.nil _ _ _ _ _, OwnF.nil _ _ _ _ _, hWc2, (hq2_0.trans (hq1_0.trans (hq0_0.trans rfl))), Dj.nil2, Dj.nil, Dj.nil⟩) ?_
 clear h
 intro m_ y L3 w3 hy
 rw [hI3] at hy
 obtain ⟨v3_0, v3_1, v3_2, v3_3, v3_4, v3_5, v3_6, v3_7, A3_8, c3_8, s3_8, A3_9, c3_9, s3_9, q3_a0, rfl, h, hF, hO_s3_8, hO_s3_9, hW3_a0, hq3_a0_0, dj_s3_9_s3_8, dj_w10_s3_8, dj_w10_s3_9⟩ := hy
 have hS3_a0_0 : SlR R23.row (f0_ack.S a0) w A0_0 c0_0 q3_a0.1 := by rw [hq3_a0_0]; exact hS0_0
 obtain ⟨m3, o3, rfl, h, hl3, hr_3⟩ := iter_some h
 unfold f0_ack.s3 at h
 try dsimp only at h
 try dsimp only
 refine ok_if (fun hc12 => ?_) (fun hc12 => ?_)
 ·have h := bif_t h hc12
  refine ok_if (fun hc13 => ?_) (fun hc13 => ?_)
  ·have h := bif_t h hc13
   obtain ⟨r4, hr4, h⟩ := bse h
   have hBv4 : ∀ b, (f0_below.S a0) b → ¬ _ ∧ b < _ := fun b hb => by exact ⟨(hW3_a0.lt b hb).2.1, hW3_a0.lt1 b hb⟩
   have hBm4 : ∀ b, (f0_below.S a0) b → (f0_ack.S a0) b ∨ w.heap.size ≤ b := fun b hb => by exact hmc2 b hb
   have hjB4_s3_8 : ∀ b, blk (A3_8, 0, 0) b → ¬ (f0_below.S a0) b := fun b h0 hb => by exact (Dj.symm dj_w10_s3_8) b h0 hb
   have hjB4_s3_9 : ∀ b, blk (A3_9, 0, 0) b → ¬ (f0_below.S a0) b := fun b h0 hb => by exact (Dj.symm dj_w10_s3_9) b h0 hb
   rcases r4 with z4 | r4
   ·try dsimp only at h
    obtain rfl := Option.some.inj h
    obtain rfl := hr_3 _ rfl
    refine ok_callp rfl (fun L4 w4 g4 lt4 => ?_)
    refine (f0_below.c k _ q3_a0 _ _ (IntKind.i64.wrap (v3_0 - 2)) 5 _ hr4  w4 (hW3_a0.later g4).bare' (hS3_a0_0.later ((hF.trans g4).with hBm4))).mono ?_
    rintro e w4' ⟨rfl, hf4⟩
    exact ⟨_, rfl, rfl, (hF.trans g4).past hf4 hBm4⟩
   try dsimp only at h
   obtain ⟨v4_0, qc4⟩ := r4
   try dsimp only at h
   refine ok_callo (f0_below.S a0) rfl hBv4 (fun L4 w4 g4 lt4 => ?_)
   refine (f0_below.c k _ q3_a0 _ _ (IntKind.i64.wrap (v3_0 - 2)) 5 (.ok (v4_0, qc4)) hr4  w4 (hW3_a0.later g4).bare' (hS3_a0_0.later ((hF.trans g4).with hBm4))).mono ?_
   rintro e w4' ⟨rfl, hf4, hWc4, hq4_0⟩
   refine ⟨(v4_0, ()), rfl, hf4, fun g4' hid4 hv4 => ?_⟩
   try dsimp only
   have hSc4_0 : SlR R23.row (f0_ack.S a0) w A0_0 c0_0 qc4.1 := by rw [hq4_0]; exact hS3_a0_0
   have hmc4 := hmc2
   have hWc4 := hWc4.vis (fun b hb => hv4 b (Or.inl hb))
   have hO_s3_8 := OwnF.others hO_s3_8 hjB4_s3_8 g4'
   have hO_s3_9 := OwnF.others hO_s3_9 hjB4_s3_9 g4'
   have hF := Fine.own hF g4' hBm4 hid4
   obtain ⟨r5, hr5, h⟩ := bse h
   have hBv5 : ∀ b, (f0_below.S a0) b → ¬ _ ∧ b < _ := fun b hb => by exact ⟨(hWc4.lt b hb).2.1, hWc4.lt1 b hb⟩
   have hBm5 : ∀ b, (f0_below.S a0) b → (f0_ack.S a0) b ∨ w.heap.size ≤ b := fun b hb => by exact hmc4 b hb
   have hjB5_s3_8 : ∀ b, blk (A3_8, 0, 0) b → ¬ (f0_below.S a0) b := fun b h0 hb => by exact (Dj.symm dj_w10_s3_8) b h0 hb
   have hjB5_s3_9 : ∀ b, blk (A3_9, 0, 0) b → ¬ (f0_below.S a0) b := fun b h0 hb => by exact (Dj.symm dj_w10_s3_9) b h0 hb
   rcases r5 with z5 | r5
   ·try dsimp only at h
    obtain rfl := Option.some.inj h
    obtain rfl := hr_3 _ rfl
    refine ok_callp rfl (fun L5 w5 g5 lt5 => ?_)
    refine (f0_below.c k _ qc4 _ _ (IntKind.i64.wrap (IntKind.i64.wrap (v3_0 - 2) - v4_0)) 5 _ hr5  w5 (hWc4.later g5).bare' (hSc4_0.later ((hF.trans g5).with hBm5))).mono ?_
    rintro e w5' ⟨rfl, hf5⟩
    exact ⟨_, rfl, rfl, (hF.trans g5).past hf5 hBm5⟩
   try dsimp only at h
   obtain ⟨v5_0, qc5⟩ := r5
   try dsimp only at h
   refine ok_callo (f0_below.S a0) rfl hBv5 (fun L5 w5 g5 lt5 => ?_)
   refine (f0_below.c k _ qc4 _ _ (IntKind.i64.wrap (IntKind.i64.wrap (v3_0 - 2) - v4_0)) 5 (.ok (v5_0, qc5)) hr5  w5 (hWc4.later g5).bare' (hSc4_0.later ((hF.trans g5).with hBm5))).mono ?_
   rintro e w5' ⟨rfl, hf5, hWc5, hq5_0⟩
   refine ⟨(v5_0, ()), rfl, hf5, fun g5' hid5 hv5 => ?_⟩
   try dsimp only
   have hSc5_0 : SlR R23.row (f0_ack.S a0) w A0_0 c0_0 qc5.1 := by rw [hq5_0]; exact hSc4_0
   have hmc5 := hmc4
   have hWc5 := hWc5.vis (fun b hb => hv5 b (Or.inl hb))
   have hO_s3_8 := OwnF.others hO_s3_8 hjB5_s3_8 g5'
   have hO_s3_9 := OwnF.others hO_s3_9 hjB5_s3_9 g5'
   have hF := Fine.own hF g5' hBm5 hid5
   refine ok_lit (R := R34) (base := w.heap.size) (xs := ([(IntKind.i64.wrap (IntKind.i64.wrap (IntKind.i64.wrap (v3_0 - 2) - v4_0) - v5_0), IntKind.i64.wrap (IntKind.i64.wrap (v3_0 - 2) - v4_0))] : List (Int × Int))) #[Value.int IntKind.i64 (IntKind.i64.wrap (IntKind.i64.wrap (IntKind.i64.wrap (v3_0 - 2) - v4_0) - v5_0)), Value.int IntKind.i64 (IntKind.i64.wrap (IntKind.i64.wrap (v3_0 - 2) - v4_0))] E34 rfl (by decide) (by decide) ⟨_, _, rfl, rfl, by kernel_rfl⟩ rfl hF.size (fun Ax6 cx6 L6 w6 hO6 g6 hbl6 => ?_)
   try dsimp only
   have dj_o18_s3_8 : Dj Ax6 A3_8 := Dj.new hbl6 hO_s3_8.lt
   have dj_o18_s3_9 : Dj Ax6 A3_9 := Dj.new hbl6 hO_s3_9.lt
   have dj_o18_w16 : Dj Ax6 a0 := Dj.new hbl6 hWc5.lt1
   have hF := hF.trans g6
   have hO_s3_8 := hO_s3_8.later g6
   have hO_s3_9 := hO_s3_9.later g6
   have hWc5 := hWc5.later g6
   obtain ⟨hq19, h⟩ := bif_need h
   have hq19 := of_decide_eq_true hq19
   refine ok_app (R := R34) (base := w.heap.size) (xs := s3_9) (ys := ([(IntKind.i64.wrap (IntKind.i64.wrap (IntKind.i64.wrap (v3_0 - 2) - v4_0) - v5_0), IntKind.i64.wrap (IntKind.i64.wrap (v3_0 - 2) - v4_0))] : List (Int × Int))) rfl rfl E34 hO_s3_9 hO6.sl (by decide) hq19 hF.size (fun Ax7 cx7 L7 w7 hO7 g7 hid7 hbl7 => ?_)
   try dsimp only
   have dj_o20_s3_8 : Dj Ax7 A3_8 := Dj.grow dj_s3_9_s3_8 hbl7 hO_s3_8.lt
   have dj_o20_w16 : Dj Ax7 a0 := Dj.grow (Dj.symm dj_w10_s3_9) hbl7 hWc5.lt1
   have dj_o20_o18 : Dj Ax7 Ax6 := Dj.grow (Dj.symm dj_o18_s3_9) hbl7 hO6.lt
   have hO_s3_8 := hO_s3_8.other (Dj.symm dj_s3_9_s3_8) g7
   have hWc5 := hWc5.other dj_w10_s3_9 g7
   have hO6 := hO6.other dj_o18_s3_9 g7
   have hF := Fine.own hF g7 (fun b hb => Or.inr (Own.base hO_s3_9 hb)) hid7
   obtain rfl := Option.some.inj h
   have h := hl3 _ rfl
   exact ok_again (I := I3) m3 (Nat.lt_succ_self _) (fun L w' he => by rw [hI3]; exact ⟨_, _, _, _, _, _, _, _, A3_8, c3_8, s3_8, Ax7, cx7, (s3_9 ++ ([(IntKind.i64.wrap (IntKind.i64.wrap (IntKind.i64.wrap (v3_0 - 2) - v4_0) - v5_0), IntKind.i64.wrap (IntKind.i64.wrap (v3_0 - 2) - v4_0))] : List (Int × Int))), qc5, rfl, h, hF.trans he.fine, hO_s3_8.later he.fine, hO7.later he.fine, hWc5.later he.fine, (hq5_0.trans (hq4_0.trans hq3_a0_0)), dj_o20_s3_8, dj_w10_s3_8, (Dj.symm dj_o20_w16)⟩)
  ·have h := bif_f h hc13
   obtain ⟨r4, hr4, h⟩ := bse h
   have hBv4 : ∀ b, (f0_below.S a0) b → ¬ _ ∧ b < _ := fun b hb => by exact ⟨(hW3_a0.lt b hb).2.1, hW3_a0.lt1 b hb⟩
   have hBm4 : ∀ b, (f0_below.S a0) b → (f0_ack.S a0) b ∨ w.heap.size ≤ b := fun b hb => by exact hmc2 b hb
   have hjB4_s3_8 : ∀ b, blk (A3_8, 0, 0) b → ¬ (f0_below.S a0) b := fun b h0 hb => by exact (Dj.symm dj_w10_s3_8) b h0 hb
   have hjB4_s3_9 : ∀ b, blk (A3_9, 0, 0) b → ¬ (f0_below.S a0) b := fun b h0 hb => by exact (Dj.symm dj_w10_s3_9) b h0 hb
   rcases r4 with z4 | r4
   ·try dsimp only at h
    obtain rfl := Option.some.inj h
    obtain rfl := hr_3 _ rfl
    refine ok_callp rfl (fun L4 w4 g4 lt4 => ?_)
    refine (f0_below.c k _ q3_a0 _ _ v3_0 5 _ hr4  w4 (hW3_a0.later g4).bare' (hS3_a0_0.later ((hF.trans g4).with hBm4))).mono ?_
    rintro e w4' ⟨rfl, hf4⟩
    exact ⟨_, rfl, rfl, (hF.trans g4).past hf4 hBm4⟩
   try dsimp only at h
   obtain ⟨v4_0, qc4⟩ := r4
   try dsimp only at h
   refine ok_callo (f0_below.S a0) rfl hBv4 (fun L4 w4 g4 lt4 => ?_)
   refine (f0_below.c k _ q3_a0 _ _ v3_0 5 (.ok (v4_0, qc4)) hr4  w4 (hW3_a0.later g4).bare' (hS3_a0_0.later ((hF.trans g4).with hBm4))).mono ?_
   rintro e w4' ⟨rfl, hf4, hWc4, hq4_0⟩
   refine ⟨(v4_0, ()), rfl, hf4, fun g4' hid4 hv4 => ?_⟩
   try dsimp only
   have hSc4_0 : SlR R23.row (f0_ack.S a0) w A0_0 c0_0 qc4.1 := by rw [hq4_0]; exact hS3_a0_0
   have hmc4 := hmc2
   have hWc4 := hWc4.vis (fun b hb => hv4 b (Or.inl hb))
   have hO_s3_8 := OwnF.others hO_s3_8 hjB4_s3_8 g4'
   have hO_s3_9 := OwnF.others hO_s3_9 hjB4_s3_9 g4'
   have hF := Fine.own hF g4' hBm4 hid4
   refine ok_lit (R := R34) (base := w.heap.size) (xs := ([(IntKind.i64.wrap (v3_0 - v4_0), v3_0)] : List (Int × Int))) #[Value.int IntKind.i64 (IntKind.i64.wrap (v3_0 - v4_0)), Value.int IntKind.i64 v3_0] E34 rfl (by decide) (by decide) ⟨_, _, rfl, rfl, by kernel_rfl⟩ rfl hF.size (fun Ax5 cx5 L5 w5 hO5 g5 hbl5 => ?_)
   try dsimp only
   have dj_o23_s3_8 : Dj Ax5 A3_8 := Dj.new hbl5 hO_s3_8.lt
   have dj_o23_s3_9 : Dj Ax5 A3_9 := Dj.new hbl5 hO_s3_9.lt
   have dj_o23_w21 : Dj Ax5 a0 := Dj.new hbl5 hWc4.lt1
   have hF := hF.trans g5
   have hO_s3_8 := hO_s3_8.later g5
   have hO_s3_9 := hO_s3_9.later g5
   have hWc4 := hWc4.later g5
   obtain ⟨hq24, h⟩ := bif_need h
   have hq24 := of_decide_eq_true hq24
   refine ok_app (R := R34) (base := w.heap.size) (xs := s3_9) (ys := ([(IntKind.i64.wrap (v3_0 - v4_0), v3_0)] : List (Int × Int))) rfl rfl E34 hO_s3_9 hO5.sl (by decide) hq24 hF.size (fun Ax6 cx6 L6 w6 hO6 g6 hid6 hbl6 => ?_)
   try dsimp only
   have dj_o25_s3_8 : Dj Ax6 A3_8 := Dj.grow dj_s3_9_s3_8 hbl6 hO_s3_8.lt
   have dj_o25_w21 : Dj Ax6 a0 := Dj.grow (Dj.symm dj_w10_s3_9) hbl6 hWc4.lt1
   have dj_o25_o23 : Dj Ax6 Ax5 := Dj.grow (Dj.symm dj_o23_s3_9) hbl6 hO5.lt
   have hO_s3_8 := hO_s3_8.other (Dj.symm dj_s3_9_s3_8) g6
   have hWc4 := hWc4.other dj_w10_s3_9 g6
   have hO5 := hO5.other dj_o23_s3_9 g6
   have hF := Fine.own hF g6 (fun b hb => Or.inr (Own.base hO_s3_9 hb)) hid6
   obtain rfl := Option.some.inj h
   have h := hl3 _ rfl
   exact ok_again (I := I3) m3 (Nat.lt_succ_self _) (fun L w' he => by rw [hI3]; exact ⟨_, _, _, _, _, _, _, _, A3_8, c3_8, s3_8, Ax6, cx6, (s3_9 ++ ([(IntKind.i64.wrap (v3_0 - v4_0), v3_0)] : List (Int × Int))), qc4, rfl, h, hF.trans he.fine, hO_s3_8.later he.fine, hO6.later he.fine, hWc4.later he.fine, (hq4_0.trans hq3_a0_0), dj_o25_s3_8, dj_w10_s3_8, (Dj.symm dj_o25_w21)⟩)
 ·have h := bif_f h hc12
  have hm_r4 : ∀ b, blk (A3_9, 0, 0) b → (f0_ack.S a0) b ∨ w.heap.size ≤ b := (fun b hb => Or.inr (Own.base hO_s3_9 hb))
  refine ok_rev34 rfl hO_s3_9 (fun L4 w4 h4 gs4 hd4 => ?_)
  try dsimp only
  have hO_s3_8 := hO_s3_8.other (Dj.symm dj_s3_9_s3_8) gs4
  have hW3_a0 := hW3_a0.other dj_w10_s3_9 gs4
  have hF := Fine.own hF gs4 hm_r4 hd4
  have hO_s3_9 := h4
  have hz4 : s3_9.length = ((s3_9.reverse)).length := by rw [List.length_reverse]
  obtain rfl := Option.some.inj h
  obtain rfl := hr_3 _ rfl
  have homes := fun (b : Nat) (h : b < w.heap.size) => h
  intro ρ L w' _ he _ _
  exact ⟨A3_8, c3_8, A3_9, c3_9, (by dsimp only; rw [← hz4]; rfl), (hF.ext he).with (fun b h => Or.inl h), (hW3_a0.later he.fine).bare', (hO_s3_8.later he.fine).ret, (hO_s3_9.later he.fine).ret, dj_s3_9_s3_8, hq3_a0_0⟩
abbrev f0_frame.S (a0 : Option Addr) : Nat → Prop := fun b => blk (a0, 0, 0) b
def f0_frame.F (k : Nat) (q0 : (List Int) × Int) : Option (Except (Int × Int) (Int × Int × Int × Int × Int × Bool × (List Int) × (List (Int × Int)) × ((List Int) × Int))) := (getI q0.1 q0.2).bind fun r3 => bif IntKind.i64.wrap r3 == 0 then (some (.ok ((IntKind.i64.wrap r3, 0, 0, 0, 0, false, [], [], (q0.1, (IntKind.i64.wrap (q0.2 + 1))))))) else (bif IntKind.i64.wrap r3 == 1 then (some (.ok ((IntKind.i64.wrap r3, 0, 0, 0, 0, false, [], [], (q0.1, (IntKind.i64.wrap (q0.2 + 1))))))) else (bif IntKind.i64.wrap r3 == 30 then (some (.ok ((IntKind.i64.wrap r3, 0, 0, 0, 0, false, [], [], (q0.1, (IntKind.i64.wrap (q0.2 + 1))))))) else (bif IntKind.i64.wrap r3 == 2 then ((f0_ack.F k ((q0.1, (IntKind.i64.wrap (q0.2 + 1))))).bind fun r4 => match r4 with | .error z4 => some (.error z4) | .ok (v4_0, v4_1, v4_2, v4_3, v4_4, v4_5, s4_6, s4_7, qc4) => some (.ok ((v4_0, v4_1, v4_2, v4_3, v4_4, v4_5, s4_6, s4_7, qc4)))) else (bif IntKind.i64.wrap r3 == 4 then ((f0_number.F k ((q0.1, (IntKind.i64.wrap (q0.2 + 1))))).bind fun r4 => match r4 with | .error z4 => some (.error z4) | .ok (v4_0, qc4) => (f0_number.F k qc4).bind fun r5 => match r5 with | .error z5 => some (.error z5) | .ok (v5_0, qc5) => bif IntKind.i64.wrap r3 == 4 then ((f0_number.F k qc5).bind fun r6 => match r6 with | .error z6 => some (.error z6) | .ok (v6_0, qc6) => some (.ok ((IntKind.i64.wrap r3, v4_0, v6_0, 0, v5_0, false, [], [], qc6)))) else (some (.ok ((IntKind.i64.wrap r3, v4_0, 0, 0, v5_0, false, [], [], qc5))))) else (bif IntKind.i64.wrap r3 == 5 then ((f0_number.F k ((q0.1, (IntKind.i64.wrap (q0.2 + 1))))).bind fun r4 => match r4 with | .error z4 => some (.error z4) | .ok (v4_0, qc4) => (f0_number.F k qc4).bind fun r5 => match r5 with | .error z5 => some (.error z5) | .ok (v5_0, qc5) => bif IntKind.i64.wrap r3 == 4 then ((f0_number.F k qc5).bind fun r6 => match r6 with | .error z6 => some (.error z6) | .ok (v6_0, qc6) => some (.ok ((IntKind.i64.wrap r3, v4_0, v6_0, 0, v5_0, false, [], [], qc6)))) else (some (.ok ((IntKind.i64.wrap r3, v4_0, 0, 0, v5_0, false, [], [], qc5))))) else (bif IntKind.i64.wrap r3 == 17 then ((f0_number.F k ((q0.1, (IntKind.i64.wrap (q0.2 + 1))))).bind fun r4 => match r4 with | .error z4 => some (.error z4) | .ok (v4_0, qc4) => (f0_number.F k qc4).bind fun r5 => match r5 with | .error z5 => some (.error z5) | .ok (v5_0, qc5) => some (.ok ((IntKind.i64.wrap r3, v4_0, 0, v5_0, 0, false, [], [], qc5)))) else (bif IntKind.i64.wrap r3 == 16 then ((f0_number.F k ((q0.1, (IntKind.i64.wrap (q0.2 + 1))))).bind fun r4 => match r4 with | .error z4 => some (.error z4) | .ok (v4_0, qc4) => some (.ok ((IntKind.i64.wrap r3, 0, 0, v4_0, 0, false, [], [], qc4)))) else (bif IntKind.i64.wrap r3 == 18 then ((f0_number.F k ((q0.1, (IntKind.i64.wrap (q0.2 + 1))))).bind fun r4 => match r4 with | .error z4 => some (.error z4) | .ok (v4_0, qc4) => some (.ok ((IntKind.i64.wrap r3, 0, 0, v4_0, 0, false, [], [], qc4)))) else (bif IntKind.i64.wrap r3 == 28 then ((f0_number.F k ((q0.1, (IntKind.i64.wrap (q0.2 + 1))))).bind fun r4 => match r4 with | .error z4 => some (.error z4) | .ok (v4_0, qc4) => (f0_number.F k qc4).bind fun r5 => match r5 with | .error z5 => some (.error z5) | .ok (v5_0, qc5) => (f0_take.F k qc5 v5_0).bind fun r6 => match r6 with | .error z6 => some (.error z6) | .ok (s6_0, qc6) => some (.ok ((IntKind.i64.wrap r3, 0, 0, 0, v4_0, false, s6_0, [], qc6)))) else (bif Int.fdiv (IntKind.i64.wrap r3) (2 ^ 3) == 1 then ((frames_needs.F k true 5 q0.2).bind fun r4 => match r4 with | .error z4 => some (.error z4) | .ok _ => (f0_stream.F k ((q0.1, (IntKind.i64.wrap (q0.2 + 1)))) (IntKind.i64.wrap r3) q0.2).bind fun r5 => match r5 with | .error z5 => some (.error z5) | .ok (v5_0, v5_1, v5_2, v5_3, v5_4, v5_5, s5_6, s5_7, qc5) => some (.ok ((v5_0, v5_1, v5_2, v5_3, v5_4, v5_5, s5_6, s5_7, qc5)))) else ((frames_needs.F k false 5 q0.2).bind fun r4 => match r4 with | .error z4 => some (.error z4) | .ok _ => (f0_stream.F k ((q0.1, (IntKind.i64.wrap (q0.2 + 1)))) (IntKind.i64.wrap r3) q0.2).bind fun r5 => match r5 with | .error z5 => some (.error z5) | .ok (v5_0, v5_1, v5_2, v5_3, v5_4, v5_5, s5_6, s5_7, qc5) => some (.ok ((v5_0, v5_1, v5_2, v5_3, v5_4, v5_5, s5_6, s5_7, qc5))))))))))))))
abbrev f0_frame.A : Nat → LA := noA
set_option maxHeartbeats 4000000 in
theorem f0_frame.t (a0 : Option Addr) : tree Try.prog f0_frame.A noC Try.f26 [AV.v (Value.pointer a0)] [] =
  .need (Option.isSome a0) (
  .need (Option.isSome a0) (
  .ld (Option.map (fun x => Addr.add x 1) a0) ([Lf.i .i64]) (fun x0 =>
   .need (Option.isSome a0) (
   .need (Option.isSome a0) (
   .ld (Option.map (fun x => Addr.add x 0) a0) ([Lf.sl]) (fun x1 =>
    .need (decide (0 ≤ x0.1) && decide (x0.1 < ((x1.1.2.1 : Nat) : Int)) && Option.isSome x1.1.1) (
    .ld (Option.map (fun x => Addr.add x (Int.toNat x0.1 * 1)) x1.1.1) ([Lf.i IntKind.u8]) (fun x2 =>
     .need (Option.isSome a0) (
     .need (Option.isSome a0) (
     .ld (Option.map (fun x => Addr.add x 1) a0) ([Lf.i .i64]) (fun x3 =>
      .need (Option.isSome a0) (
      .need (Option.isSome a0) (
      .sto (Option.map (fun x => Addr.add x 1) a0) ([AV.v (.int .i64 (IntKind.i64.wrap (x3.1 + 1)))]) ([]) (
      bif IntKind.i64.wrap x2.1 == 0 then (
       .done (AV.agg [AV.v (.int .i64 (IntKind.i64.wrap x2.1)), AV.v (.int .i64 0), AV.v (.int .i64 0), AV.v (.int .i64 0), AV.v (.int .i64 0), AV.v (Value.bool false), AV.v (Value.slice none 0 0), AV.v (Value.slice none 0 0)]) ([]))
      else (
       bif IntKind.i64.wrap x2.1 == 1 then (
        .done (AV.agg [AV.v (.int .i64 (IntKind.i64.wrap x2.1)), AV.v (.int .i64 0), AV.v (.int .i64 0), AV.v (.int .i64 0), AV.v (.int .i64 0), AV.v (Value.bool false), AV.v (Value.slice none 0 0), AV.v (Value.slice none 0 0)]) ([]))
       else (
        bif IntKind.i64.wrap x2.1 == 30 then (
         .done (AV.agg [AV.v (.int .i64 (IntKind.i64.wrap x2.1)), AV.v (.int .i64 0), AV.v (.int .i64 0), AV.v (.int .i64 0), AV.v (.int .i64 0), AV.v (Value.bool false), AV.v (Value.slice none 0 0), AV.v (Value.slice none 0 0)]) ([]))
        else (
         bif IntKind.i64.wrap x2.1 == 2 then (
          .call 43 ([AV.v (Value.pointer a0)]) ([]) (Sh.agg 8) ([Lf.i .i64, Lf.i .i64, Lf.i .i64, Lf.i .i64, Lf.i .i64, Lf.b, Lf.sl, Lf.sl]) ([]) (fun x4 =>
           .done (AV.agg [AV.v (.int .i64 x4.1), AV.v (.int .i64 x4.2.1), AV.v (.int .i64 x4.2.2.1), AV.v (.int .i64 x4.2.2.2.1), AV.v (.int .i64 x4.2.2.2.2.1), AV.v (Value.bool x4.2.2.2.2.2.1), AV.v (Value.slice x4.2.2.2.2.2.2.1.1 x4.2.2.2.2.2.2.1.2.1 x4.2.2.2.2.2.2.1.2.2), AV.v (Value.slice x4.2.2.2.2.2.2.2.1.1 x4.2.2.2.2.2.2.2.1.2.1 x4.2.2.2.2.2.2.2.1.2.2)]) ([])))
         else (
          bif IntKind.i64.wrap x2.1 == 4 then (
           .call 44 ([AV.v (Value.pointer a0)]) ([]) (Sh.one) ([Lf.i .i64]) ([]) (fun x4 =>
            .call 44 ([AV.v (Value.pointer a0)]) ([]) (Sh.one) ([Lf.i .i64]) ([]) (fun x5 =>
             bif IntKind.i64.wrap x2.1 == 4 then (
              .call 44 ([AV.v (Value.pointer a0)]) ([]) (Sh.one) ([Lf.i .i64]) ([]) (fun x6 =>
               .done (AV.agg [AV.v (.int .i64 (IntKind.i64.wrap x2.1)), AV.v (.int .i64 x4.1), AV.v (.int .i64 x6.1), AV.v (.int .i64 0), AV.v (.int .i64 x5.1), AV.v (Value.bool false), AV.v (Value.slice none 0 0), AV.v (Value.slice none 0 0)]) ([])))
             else (
              .done (AV.agg [AV.v (.int .i64 (IntKind.i64.wrap x2.1)), AV.v (.int .i64 x4.1), AV.v (.int .i64 0), AV.v (.int .i64 0), AV.v (.int .i64 x5.1), AV.v (Value.bool false), AV.v (Value.slice none 0 0), AV.v (Value.slice none 0 0)]) ([])))))
          else (
           bif IntKind.i64.wrap x2.1 == 5 then (
            .call 44 ([AV.v (Value.pointer a0)]) ([]) (Sh.one) ([Lf.i .i64]) ([]) (fun x4 =>
             .call 44 ([AV.v (Value.pointer a0)]) ([]) (Sh.one) ([Lf.i .i64]) ([]) (fun x5 =>
              bif IntKind.i64.wrap x2.1 == 4 then (
               .call 44 ([AV.v (Value.pointer a0)]) ([]) (Sh.one) ([Lf.i .i64]) ([]) (fun x6 =>
                .done (AV.agg [AV.v (.int .i64 (IntKind.i64.wrap x2.1)), AV.v (.int .i64 x4.1), AV.v (.int .i64 x6.1), AV.v (.int .i64 0), AV.v (.int .i64 x5.1), AV.v (Value.bool false), AV.v (Value.slice none 0 0), AV.v (Value.slice none 0 0)]) ([])))
              else (
               .done (AV.agg [AV.v (.int .i64 (IntKind.i64.wrap x2.1)), AV.v (.int .i64 x4.1), AV.v (.int .i64 0), AV.v (.int .i64 0), AV.v (.int .i64 x5.1), AV.v (Value.bool false), AV.v (Value.slice none 0 0), AV.v (Value.slice none 0 0)]) ([])))))
           else (
            bif IntKind.i64.wrap x2.1 == 17 then (
             .call 44 ([AV.v (Value.pointer a0)]) ([]) (Sh.one) ([Lf.i .i64]) ([]) (fun x4 =>
              .call 44 ([AV.v (Value.pointer a0)]) ([]) (Sh.one) ([Lf.i .i64]) ([]) (fun x5 =>
               .done (AV.agg [AV.v (.int .i64 (IntKind.i64.wrap x2.1)), AV.v (.int .i64 x4.1), AV.v (.int .i64 0), AV.v (.int .i64 x5.1), AV.v (.int .i64 0), AV.v (Value.bool false), AV.v (Value.slice none 0 0), AV.v (Value.slice none 0 0)]) ([]))))
            else (
             bif IntKind.i64.wrap x2.1 == 16 then (
              .call 44 ([AV.v (Value.pointer a0)]) ([]) (Sh.one) ([Lf.i .i64]) ([]) (fun x4 =>
               .done (AV.agg [AV.v (.int .i64 (IntKind.i64.wrap x2.1)), AV.v (.int .i64 0), AV.v (.int .i64 0), AV.v (.int .i64 x4.1), AV.v (.int .i64 0), AV.v (Value.bool false), AV.v (Value.slice none 0 0), AV.v (Value.slice none 0 0)]) ([])))
             else (
              bif IntKind.i64.wrap x2.1 == 18 then (
               .call 44 ([AV.v (Value.pointer a0)]) ([]) (Sh.one) ([Lf.i .i64]) ([]) (fun x4 =>
                .done (AV.agg [AV.v (.int .i64 (IntKind.i64.wrap x2.1)), AV.v (.int .i64 0), AV.v (.int .i64 0), AV.v (.int .i64 x4.1), AV.v (.int .i64 0), AV.v (Value.bool false), AV.v (Value.slice none 0 0), AV.v (Value.slice none 0 0)]) ([])))
              else (
               bif IntKind.i64.wrap x2.1 == 28 then (
                .call 44 ([AV.v (Value.pointer a0)]) ([]) (Sh.one) ([Lf.i .i64]) ([]) (fun x4 =>
                 .call 44 ([AV.v (Value.pointer a0)]) ([]) (Sh.one) ([Lf.i .i64]) ([]) (fun x5 =>
                  .call 45 ([AV.v (Value.pointer a0), AV.v (.int .i64 x5.1)]) ([]) (Sh.one) ([Lf.sl]) ([]) (fun x6 =>
                   .done (AV.agg [AV.v (.int .i64 (IntKind.i64.wrap x2.1)), AV.v (.int .i64 0), AV.v (.int .i64 0), AV.v (.int .i64 0), AV.v (.int .i64 x4.1), AV.v (Value.bool false), AV.v (Value.slice x6.1.1 x6.1.2.1 x6.1.2.2), AV.v (Value.slice none 0 0)]) ([])))))
               else (
                .need (true) (
                bif Int.fdiv (IntKind.i64.wrap x2.1) (2 ^ 3) == 1 then (
                 .call 25 ([AV.v (Value.bool true), AV.v (.int .i64 5), AV.v (.int .i64 x0.1)]) ([]) (Sh.tup []) ([]) ([]) (fun x4 =>
                  .call 46 ([AV.v (Value.pointer a0), AV.v (.int .i64 (IntKind.i64.wrap x2.1)), AV.v (.int .i64 x0.1)]) ([]) (Sh.agg 8) ([Lf.i .i64, Lf.i .i64, Lf.i .i64, Lf.i .i64, Lf.i .i64, Lf.b, Lf.sl, Lf.sl]) ([]) (fun x5 =>
                   .done (AV.agg [AV.v (.int .i64 x5.1), AV.v (.int .i64 x5.2.1), AV.v (.int .i64 x5.2.2.1), AV.v (.int .i64 x5.2.2.2.1), AV.v (.int .i64 x5.2.2.2.2.1), AV.v (Value.bool x5.2.2.2.2.2.1), AV.v (Value.slice x5.2.2.2.2.2.2.1.1 x5.2.2.2.2.2.2.1.2.1 x5.2.2.2.2.2.2.1.2.2), AV.v (Value.slice x5.2.2.2.2.2.2.2.1.1 x5.2.2.2.2.2.2.2.1.2.1 x5.2.2.2.2.2.2.2.1.2.2)]) ([]))))
                else (
                 .call 25 ([AV.v (Value.bool false), AV.v (.int .i64 5), AV.v (.int .i64 x0.1)]) ([]) (Sh.tup []) ([]) ([]) (fun x4 =>
                  .call 46 ([AV.v (Value.pointer a0), AV.v (.int .i64 (IntKind.i64.wrap x2.1)), AV.v (.int .i64 x0.1)]) ([]) (Sh.agg 8) ([Lf.i .i64, Lf.i .i64, Lf.i .i64, Lf.i .i64, Lf.i .i64, Lf.b, Lf.sl, Lf.sl]) ([]) (fun x5 =>
                   .done (AV.agg [AV.v (.int .i64 x5.1), AV.v (.int .i64 x5.2.1), AV.v (.int .i64 x5.2.2.1), AV.v (.int .i64 x5.2.2.2.1), AV.v (.int .i64 x5.2.2.2.2.1), AV.v (Value.bool x5.2.2.2.2.2.1), AV.v (Value.slice x5.2.2.2.2.2.2.1.1 x5.2.2.2.2.2.2.1.2.1 x5.2.2.2.2.2.2.1.2.2), AV.v (Value.slice x5.2.2.2.2.2.2.2.1.1 x5.2.2.2.2.2.2.2.1.2.1 x5.2.2.2.2.2.2.2.1.2.2)]) ([]))))))))))))))))))))))))))))) := by kernel_rfl
set_option maxHeartbeats 4000000 in
theorem f0_frame.c (k : Nat) (a0 : Option Addr) (q0 : (List Int) × Int) (A0_0 : Option Addr) (c0_0 : Nat) (r : Except (Int × Int) (Int × Int × Int × Int × Int × Bool × (List Int) × (List (Int × Int)) × ((List Int) × Int))) (h : f0_frame.F k q0 = some r)  (w : World) (hW0 : OwnO 0 (fun _ => False) w 52 RW52 a0 1 [((A0_0, q0.1.length, c0_0), q0.2)]) (hS0_0 : SlR R23.row (f0_frame.S a0) w A0_0 c0_0 q0.1) : Calls Try.prog 26 (AV.gs id [AV.v (Value.pointer a0)]).toArray w fun e w' => match r with | .ok r => ∃ (B6 : Option Addr) (d6 : Nat) (B7 : Option Addr) (d7 : Nat), e = .returned (((Sh.agg 8 : Sh).av (vs [Lf.i .i64, Lf.i .i64, Lf.i .i64, Lf.i .i64, Lf.i .i64, Lf.b, Lf.sl, Lf.sl] (r.1, r.2.1, r.2.2.1, r.2.2.2.1, r.2.2.2.2.1, r.2.2.2.2.2.1, (B6, (r.2.2.2.2.2.2.1).length, d6), (B7, (r.2.2.2.2.2.2.2.1).length, d7), ()))).g id) ∧ Fine (f0_frame.S a0) w (f0_frame.S a0) w' ∧ OwnO 0 (fun _ => False) w' 52 RW52 a0 1 [((A0_0, r.2.2.2.2.2.2.2.2.1.length, c0_0), r.2.2.2.2.2.2.2.2.2)] ∧ OwnF w.heap.size (fun b => b < w.heap.size) w' 5 R23 B6 d6 r.2.2.2.2.2.2.1 ∧ OwnF w.heap.size (fun b => b < w.heap.size) w' 42 R34 B7 d7 r.2.2.2.2.2.2.2.1 ∧ Dj B7 B6 ∧ r.2.2.2.2.2.2.2.2.1 = q0.1 | .error z => e = .panicked [{ v := .iface 48 (.agg #[.int .i64 z.1, .int .i64 z.2]), recovered := false }] ∧ Fine (f0_frame.S a0) w (f0_frame.S a0) w' := by
 refine enter0 mixed f0_frame.A noC [AV.v (Value.pointer a0)] Try.func26 rfl rfl rfl (fun hF => ?_)
 have hA_a0 : Option.isSome a0 = true := hW0.sl.some (by simp)
 have hN_a0 : Option.isNone a0 = false := by cases a0 <;> simp_all
 have hF : Fine (f0_frame.S a0) w (fun _ => False) w := ⟨rfl, rfl, rfl, Nat.le_refl _, fun _ _ _ => rfl, fun b h => h.elim⟩
 have hm0 : ∀ b, blk (a0, 0, 0) b → (f0_frame.S a0) b ∨ w.heap.size ≤ b := fun b hb => Or.inl hb
 rw [f0_frame.t]
 unfold f0_frame.F at h
 try dsimp only at h
 refine ok_need hA_a0 ?_
 refine ok_need hA_a0 ?_
 refine ok_ob 1 hW0.sl (Fine.refl _ _) (fun cs hcs => ⟨q0.2, by rw [hcs]; rfl, ?_⟩)
 try dsimp only
 refine ok_need hA_a0 ?_
 refine ok_need hA_a0 ?_
 refine ok_ob 0 hW0.sl (Fine.refl _ _) (fun cs hcs => ⟨(A0_0, q0.1.length, c0_0), by rw [hcs]; rfl, ?_⟩)
 try dsimp only
 obtain ⟨r3, hr4, h⟩ := bse h
 refine ok_need (getI_need (hS0_0.later hF) hr4) ?_
 refine ok_get hS0_0 hF hr4 (by simp) (fun cs hcs => ⟨(r3, ()), hcs.symm, ?_⟩)
 try dsimp only
 refine ok_need hA_a0 ?_
 refine ok_need hA_a0 ?_
 refine ok_ob 1 hW0.sl (Fine.refl _ _) (fun cs hcs => ⟨q0.2, by rw [hcs]; rfl, ?_⟩)
 try dsimp only
 refine ok_need hA_a0 ?_
 refine ok_need hA_a0 ?_
 refine ok_put0 (R := RW52) (x' := ((A0_0, q0.1.length, c0_0), (IntKind.i64.wrap (q0.2 + 1)))) (vs := [Value.int IntKind.i64 (IntKind.i64.wrap (q0.2 + 1))]) 1 hW0 (Nat.le_of_ble_eq_true rfl) rfl (fun _ => rfl) (fun Lt5 wt5 ht5 gst5 hdt5 => ?_)
 have hF := Fine.own hF gst5 hm0 hdt5
 have hW0 := ht5
 refine ok_if (fun hc6 => ?_) (fun hc6 => ?_)
 ·have h := bif_t h hc6
  obtain rfl := Option.some.inj h
  have homes := fun (b : Nat) (h : b < w.heap.size) => h
  intro ρ L w' _ he _ _
  exact ⟨none, 0, none, 0, rfl, (hF.ext he).with (fun b h => Or.inl h), (hW0.later he.fine).bare', OwnF.ret (OwnF.nil _ (fun _ => False) _ _ _), OwnF.ret (OwnF.nil _ (fun _ => False) _ _ _), Dj.nil2, rfl⟩
 ·have h := bif_f h hc6
  refine ok_if (fun hc7 => ?_) (fun hc7 => ?_)
  ·have h := bif_t h hc7
   obtain rfl := Option.some.inj h
   have homes := fun (b : Nat) (h : b < w.heap.size) => h
   intro ρ L w' _ he _ _
   exact ⟨none, 0, none, 0, rfl, (hF.ext he).with (fun b h => Or.inl h), (hW0.later he.fine).bare', OwnF.ret (OwnF.nil _ (fun _ => False) _ _ _), OwnF.ret (OwnF.nil _ (fun _ => False) _ _ _), Dj.nil2, rfl⟩
  ·have h := bif_f h hc7
   refine ok_if (fun hc8 => ?_) (fun hc8 => ?_)
   ·have h := bif_t h hc8
    obtain rfl := Option.some.inj h
    have homes := fun (b : Nat) (h : b < w.heap.size) => h
    intro ρ L w' _ he _ _
    exact ⟨none, 0, none, 0, rfl, (hF.ext he).with (fun b h => Or.inl h), (hW0.later he.fine).bare', OwnF.ret (OwnF.nil _ (fun _ => False) _ _ _), OwnF.ret (OwnF.nil _ (fun _ => False) _ _ _), Dj.nil2, rfl⟩
   ·have h := bif_f h hc8
    refine ok_if (fun hc9 => ?_) (fun hc9 => ?_)
    ·have h := bif_t h hc9
     obtain ⟨r4, hr4, h⟩ := bse h
     have hBv4 : ∀ b, (f0_ack.S a0) b → ¬ _ ∧ b < _ := fun b hb => by exact ⟨(hW0.lt b hb).2.1, hW0.lt1 b hb⟩
     have hBm4 : ∀ b, (f0_ack.S a0) b → (f0_frame.S a0) b ∨ w.heap.size ≤ b := fun b hb => by exact hm0 b hb
     rcases r4 with z4 | r4
     ·try dsimp only at h
      obtain rfl := Option.some.inj h
      refine ok_callp rfl (fun L4 w4 g4 lt4 => ?_)
      refine (f0_ack.c k _ ((q0.1, (IntKind.i64.wrap (q0.2 + 1)))) _ _ _ hr4  w4 (hW0.later g4).bare' (hS0_0.later ((hF.trans g4).with hBm4))).mono ?_
      rintro e w4' ⟨rfl, hf4⟩
      exact ⟨_, rfl, rfl, (hF.trans g4).past hf4 hBm4⟩
     try dsimp only at h
     obtain ⟨v4_0, v4_1, v4_2, v4_3, v4_4, v4_5, s4_6, s4_7, qc4⟩ := r4
     try dsimp only at h
     refine ok_callo (f0_ack.S a0) rfl hBv4 (fun L4 w4 g4 lt4 => ?_)
     refine (f0_ack.c k _ ((q0.1, (IntKind.i64.wrap (q0.2 + 1)))) _ _ (.ok (v4_0, v4_1, v4_2, v4_3, v4_4, v4_5, s4_6, s4_7, qc4)) hr4  w4 (hW0.later g4).bare' (hS0_0.later ((hF.trans g4).with hBm4))).mono ?_
     rintro e w4' ⟨A4_6, c4_6, A4_7, c4_7, rfl, hf4, hWc4, hO4_6, hO4_7, dd4_1_0, hq4_0⟩
     refine ⟨(v4_0, v4_1, v4_2, v4_3, v4_4, v4_5, (A4_6, s4_6.length, c4_6), (A4_7, s4_7.length, c4_7), ()), rfl, hf4, fun g4' hid4 hv4 => ?_⟩
     try dsimp only
     have hSc4_0 : SlR R23.row (f0_frame.S a0) w A0_0 c0_0 qc4.1 := by rw [hq4_0]; exact hS0_0
     have dk4_o10 : Dj A4_6 a0 := Dj.new hO4_6.fresh (fun b hb => Nat.lt_of_lt_of_le (hBv4 b hb).2 g4.size)
     have dk4_o11 : Dj A4_7 a0 := Dj.new hO4_7.fresh (fun b hb => Nat.lt_of_lt_of_le (hBv4 b hb).2 g4.size)
     have hmc4 := hm0
     have hWc4 := hWc4.vis (fun b hb => hv4 b (Or.inl hb))
     have hO4_6 := hO4_6.call (hF.trans g4).size lt4
     have hO4_7 := hO4_7.call (hF.trans g4).size lt4
     have hF := Fine.own hF g4' hBm4 hid4
     obtain rfl := Option.some.inj h
     have homes := fun (b : Nat) (h : b < w.heap.size) => h
     intro ρ L w' _ he _ _
     exact ⟨A4_6, c4_6, A4_7, c4_7, rfl, (hF.ext he).with (fun b h => Or.inl h), (hWc4.later he.fine).bare', (hO4_6.later he.fine).ret, (hO4_7.later he.fine).ret, dd4_1_0, (hq4_0.trans rfl)⟩
    ·have h := bif_f h hc9
     refine ok_if (fun hc14 => ?_) (fun hc14 => ?_)
     ·have h := bif_t h hc14
      obtain ⟨r4, hr4, h⟩ := bse h
      have hBv4 : ∀ b, (f0_number.S a0) b → ¬ _ ∧ b < _ := fun b hb => by exact ⟨(hW0.lt b hb).2.1, hW0.lt1 b hb⟩
      have hBm4 : ∀ b, (f0_number.S a0) b → (f0_frame.S a0) b ∨ w.heap.size ≤ b := fun b hb => by exact hm0 b hb
      rcases r4 with z4 | r4
      ·try dsimp only at h
       obtain rfl := Option.some.inj h
       refine ok_callp rfl (fun L4 w4 g4 lt4 => ?_)
       refine (f0_number.c k _ ((q0.1, (IntKind.i64.wrap (q0.2 + 1)))) _ _ _ hr4  w4 (hW0.later g4).bare' (hS0_0.later ((hF.trans g4).with hBm4))).mono ?_
       rintro e w4' ⟨rfl, hf4⟩
       exact ⟨_, rfl, rfl, (hF.trans g4).past hf4 hBm4⟩
      try dsimp only at h
      obtain ⟨v4_0, qc4⟩ := r4
      try dsimp only at h
      refine ok_callo (f0_number.S a0) rfl hBv4 (fun L4 w4 g4 lt4 => ?_)
      refine (f0_number.c k _ ((q0.1, (IntKind.i64.wrap (q0.2 + 1)))) _ _ (.ok (v4_0, qc4)) hr4  w4 (hW0.later g4).bare' (hS0_0.later ((hF.trans g4).with hBm4))).mono ?_
      rintro e w4' ⟨rfl, hf4, hWc4, hq4_0⟩
      refine ⟨(v4_0, ()), rfl, hf4, fun g4' hid4 hv4 => ?_⟩
      try dsimp only
      have hSc4_0 : SlR R23.row (f0_frame.S a0) w A0_0 c0_0 qc4.1 := by rw [hq4_0]; exact hS0_0
      have hmc4 := hm0
      have hWc4 := hWc4.vis (fun b hb => hv4 b (Or.inl hb))
      have hF := Fine.own hF g4' hBm4 hid4
      obtain ⟨r5, hr5, h⟩ := bse h
      have hBv5 : ∀ b, (f0_number.S a0) b → ¬ _ ∧ b < _ := fun b hb => by exact ⟨(hWc4.lt b hb).2.1, hWc4.lt1 b hb⟩
      have hBm5 : ∀ b, (f0_number.S a0) b → (f0_frame.S a0) b ∨ w.heap.size ≤ b := fun b hb => by exact hmc4 b hb
      rcases r5 with z5 | r5
      ·try dsimp only at h
       obtain rfl := Option.some.inj h
       refine ok_callp rfl (fun L5 w5 g5 lt5 => ?_)
       refine (f0_number.c k _ qc4 _ _ _ hr5  w5 (hWc4.later g5).bare' (hSc4_0.later ((hF.trans g5).with hBm5))).mono ?_
       rintro e w5' ⟨rfl, hf5⟩
       exact ⟨_, rfl, rfl, (hF.trans g5).past hf5 hBm5⟩
      try dsimp only at h
      obtain ⟨v5_0, qc5⟩ := r5
      try dsimp only at h
      refine ok_callo (f0_number.S a0) rfl hBv5 (fun L5 w5 g5 lt5 => ?_)
      refine (f0_number.c k _ qc4 _ _ (.ok (v5_0, qc5)) hr5  w5 (hWc4.later g5).bare' (hSc4_0.later ((hF.trans g5).with hBm5))).mono ?_
      rintro e w5' ⟨rfl, hf5, hWc5, hq5_0⟩
      refine ⟨(v5_0, ()), rfl, hf5, fun g5' hid5 hv5 => ?_⟩
      try dsimp only
      have hSc5_0 : SlR R23.row (f0_frame.S a0) w A0_0 c0_0 qc5.1 := by rw [hq5_0]; exact hSc4_0
      have hmc5 := hmc4
      have hWc5 := hWc5.vis (fun b hb => hv5 b (Or.inl hb))
      have hF := Fine.own hF g5' hBm5 hid5
      refine ok_if (fun hc19 => ?_) (fun hc19 => ?_)
      ·have h := bif_t h hc19
       obtain ⟨r6, hr6, h⟩ := bse h
       have hBv6 : ∀ b, (f0_number.S a0) b → ¬ _ ∧ b < _ := fun b hb => by exact ⟨(hWc5.lt b hb).2.1, hWc5.lt1 b hb⟩
       have hBm6 : ∀ b, (f0_number.S a0) b → (f0_frame.S a0) b ∨ w.heap.size ≤ b := fun b hb => by exact hmc5 b hb
       rcases r6 with z6 | r6
       ·try dsimp only at h
        obtain rfl := Option.some.inj h
        refine ok_callp rfl (fun L6 w6 g6 lt6 => ?_)
        refine (f0_number.c k _ qc5 _ _ _ hr6  w6 (hWc5.later g6).bare' (hSc5_0.later ((hF.trans g6).with hBm6))).mono ?_
        rintro e w6' ⟨rfl, hf6⟩
        exact ⟨_, rfl, rfl, (hF.trans g6).past hf6 hBm6⟩
       try dsimp only at h
       obtain ⟨v6_0, qc6⟩ := r6
       try dsimp only at h
       refine ok_callo (f0_number.S a0) rfl hBv6 (fun L6 w6 g6 lt6 => ?_)
       refine (f0_number.c k _ qc5 _ _ (.ok (v6_0, qc6)) hr6  w6 (hWc5.later g6).bare' (hSc5_0.later ((hF.trans g6).with hBm6))).mono ?_
       rintro e w6' ⟨rfl, hf6, hWc6, hq6_0⟩
       refine ⟨(v6_0, ()), rfl, hf6, fun g6' hid6 hv6 => ?_⟩
       try dsimp only
       have hSc6_0 : SlR R23.row (f0_frame.S a0) w A0_0 c0_0 qc6.1 := by rw [hq6_0]; exact hSc5_0
       have hmc6 := hmc5
       have hWc6 := hWc6.vis (fun b hb => hv6 b (Or.inl hb))
       have hF := Fine.own hF g6' hBm6 hid6
       obtain rfl := Option.some.inj h
       have homes := fun (b : Nat) (h : b < w.heap.size) => h
       intro ρ L w' _ he _ _
       exact ⟨none, 0, none, 0, rfl, (hF.ext he).with (fun b h => Or.inl h), (hWc6.later he.fine).bare', OwnF.ret (OwnF.nil _ (fun _ => False) _ _ _), OwnF.ret (OwnF.nil _ (fun _ => False) _ _ _), Dj.nil2, (hq6_0.trans (hq5_0.trans (hq4_0.trans rfl)))⟩
      ·have h := bif_f h hc19
       obtain rfl := Option.some.inj h
       have homes := fun (b : Nat) (h : b < w.heap.size) => h
       intro ρ L w' _ he _ _
       exact ⟨none, 0, none, 0, rfl, (hF.ext he).with (fun b h => Or.inl h), (hWc5.later he.fine).bare', OwnF.ret (OwnF.nil _ (fun _ => False) _ _ _), OwnF.ret (OwnF.nil _ (fun _ => False) _ _ _), Dj.nil2, (hq5_0.trans (hq4_0.trans rfl))⟩
     ·have h := bif_f h hc14
      refine ok_if (fun hc22 => ?_) (fun hc22 => ?_)
      ·have h := bif_t h hc22
       obtain ⟨r4, hr4, h⟩ := bse h
       have hBv4 : ∀ b, (f0_number.S a0) b → ¬ _ ∧ b < _ := fun b hb => by exact ⟨(hW0.lt b hb).2.1, hW0.lt1 b hb⟩
       have hBm4 : ∀ b, (f0_number.S a0) b → (f0_frame.S a0) b ∨ w.heap.size ≤ b := fun b hb => by exact hm0 b hb
       rcases r4 with z4 | r4
       ·try dsimp only at h
        obtain rfl := Option.some.inj h
        refine ok_callp rfl (fun L4 w4 g4 lt4 => ?_)
        refine (f0_number.c k _ ((q0.1, (IntKind.i64.wrap (q0.2 + 1)))) _ _ _ hr4  w4 (hW0.later g4).bare' (hS0_0.later ((hF.trans g4).with hBm4))).mono ?_
        rintro e w4' ⟨rfl, hf4⟩
        exact ⟨_, rfl, rfl, (hF.trans g4).past hf4 hBm4⟩
       try dsimp only at h
       obtain ⟨v4_0, qc4⟩ := r4
       try dsimp only at h
       refine ok_callo (f0_number.S a0) rfl hBv4 (fun L4 w4 g4 lt4 => ?_)
       refine (f0_number.c k _ ((q0.1, (IntKind.i64.wrap (q0.2 + 1)))) _ _ (.ok (v4_0, qc4)) hr4  w4 (hW0.later g4).bare' (hS0_0.later ((hF.trans g4).with hBm4))).mono ?_
       rintro e w4' ⟨rfl, hf4, hWc4, hq4_0⟩
       refine ⟨(v4_0, ()), rfl, hf4, fun g4' hid4 hv4 => ?_⟩
       try dsimp only
       have hSc4_0 : SlR R23.row (f0_frame.S a0) w A0_0 c0_0 qc4.1 := by rw [hq4_0]; exact hS0_0
       have hmc4 := hm0
       have hWc4 := hWc4.vis (fun b hb => hv4 b (Or.inl hb))
       have hF := Fine.own hF g4' hBm4 hid4
       obtain ⟨r5, hr5, h⟩ := bse h
       have hBv5 : ∀ b, (f0_number.S a0) b → ¬ _ ∧ b < _ := fun b hb => by exact ⟨(hWc4.lt b hb).2.1, hWc4.lt1 b hb⟩
       have hBm5 : ∀ b, (f0_number.S a0) b → (f0_frame.S a0) b ∨ w.heap.size ≤ b := fun b hb => by exact hmc4 b hb
       rcases r5 with z5 | r5
       ·try dsimp only at h
        obtain rfl := Option.some.inj h
        refine ok_callp rfl (fun L5 w5 g5 lt5 => ?_)
        refine (f0_number.c k _ qc4 _ _ _ hr5  w5 (hWc4.later g5).bare' (hSc4_0.later ((hF.trans g5).with hBm5))).mono ?_
        rintro e w5' ⟨rfl, hf5⟩
        exact ⟨_, rfl, rfl, (hF.trans g5).past hf5 hBm5⟩
       try dsimp only at h
       obtain ⟨v5_0, qc5⟩ := r5
       try dsimp only at h
       refine ok_callo (f0_number.S a0) rfl hBv5 (fun L5 w5 g5 lt5 => ?_)
       refine (f0_number.c k _ qc4 _ _ (.ok (v5_0, qc5)) hr5  w5 (hWc4.later g5).bare' (hSc4_0.later ((hF.trans g5).with hBm5))).mono ?_
       rintro e w5' ⟨rfl, hf5, hWc5, hq5_0⟩
       refine ⟨(v5_0, ()), rfl, hf5, fun g5' hid5 hv5 => ?_⟩
       try dsimp only
       have hSc5_0 : SlR R23.row (f0_frame.S a0) w A0_0 c0_0 qc5.1 := by rw [hq5_0]; exact hSc4_0
       have hmc5 := hmc4
       have hWc5 := hWc5.vis (fun b hb => hv5 b (Or.inl hb))
       have hF := Fine.own hF g5' hBm5 hid5
       refine ok_if (fun hc27 => ?_) (fun hc27 => ?_)
       ·have h := bif_t h hc27
        obtain ⟨r6, hr6, h⟩ := bse h
        have hBv6 : ∀ b, (f0_number.S a0) b → ¬ _ ∧ b < _ := fun b hb => by exact ⟨(hWc5.lt b hb).2.1, hWc5.lt1 b hb⟩
        have hBm6 : ∀ b, (f0_number.S a0) b → (f0_frame.S a0) b ∨ w.heap.size ≤ b := fun b hb => by exact hmc5 b hb
        rcases r6 with z6 | r6
        ·try dsimp only at h
         obtain rfl := Option.some.inj h
         refine ok_callp rfl (fun L6 w6 g6 lt6 => ?_)
         refine (f0_number.c k _ qc5 _ _ _ hr6  w6 (hWc5.later g6).bare' (hSc5_0.later ((hF.trans g6).with hBm6))).mono ?_
         rintro e w6' ⟨rfl, hf6⟩
         exact ⟨_, rfl, rfl, (hF.trans g6).past hf6 hBm6⟩
        try dsimp only at h
        obtain ⟨v6_0, qc6⟩ := r6
        try dsimp only at h
        refine ok_callo (f0_number.S a0) rfl hBv6 (fun L6 w6 g6 lt6 => ?_)
        refine (f0_number.c k _ qc5 _ _ (.ok (v6_0, qc6)) hr6  w6 (hWc5.later g6).bare' (hSc5_0.later ((hF.trans g6).with hBm6))).mono ?_
        rintro e w6' ⟨rfl, hf6, hWc6, hq6_0⟩
        refine ⟨(v6_0, ()), rfl, hf6, fun g6' hid6 hv6 => ?_⟩
        try dsimp only
        have hSc6_0 : SlR R23.row (f0_frame.S a0) w A0_0 c0_0 qc6.1 := by rw [hq6_0]; exact hSc5_0
        have hmc6 := hmc5
        have hWc6 := hWc6.vis (fun b hb => hv6 b (Or.inl hb))
        have hF := Fine.own hF g6' hBm6 hid6
        obtain rfl := Option.some.inj h
        have homes := fun (b : Nat) (h : b < w.heap.size) => h
        intro ρ L w' _ he _ _
        exact ⟨none, 0, none, 0, rfl, (hF.ext he).with (fun b h => Or.inl h), (hWc6.later he.fine).bare', OwnF.ret (OwnF.nil _ (fun _ => False) _ _ _), OwnF.ret (OwnF.nil _ (fun _ => False) _ _ _), Dj.nil2, (hq6_0.trans (hq5_0.trans (hq4_0.trans rfl)))⟩
       ·have h := bif_f h hc27
        obtain rfl := Option.some.inj h
        have homes := fun (b : Nat) (h : b < w.heap.size) => h
        intro ρ L w' _ he _ _
        exact ⟨none, 0, none, 0, rfl, (hF.ext he).with (fun b h => Or.inl h), (hWc5.later he.fine).bare', OwnF.ret (OwnF.nil _ (fun _ => False) _ _ _), OwnF.ret (OwnF.nil _ (fun _ => False) _ _ _), Dj.nil2, (hq5_0.trans (hq4_0.trans rfl))⟩
      ·have h := bif_f h hc22
       refine ok_if (fun hc30 => ?_) (fun hc30 => ?_)
       ·have h := bif_t h hc30
        obtain ⟨r4, hr4, h⟩ := bse h
        have hBv4 : ∀ b, (f0_number.S a0) b → ¬ _ ∧ b < _ := fun b hb => by exact ⟨(hW0.lt b hb).2.1, hW0.lt1 b hb⟩
        have hBm4 : ∀ b, (f0_number.S a0) b → (f0_frame.S a0) b ∨ w.heap.size ≤ b := fun b hb => by exact hm0 b hb
        rcases r4 with z4 | r4
        ·try dsimp only at h
         obtain rfl := Option.some.inj h
         refine ok_callp rfl (fun L4 w4 g4 lt4 => ?_)
         refine (f0_number.c k _ ((q0.1, (IntKind.i64.wrap (q0.2 + 1)))) _ _ _ hr4  w4 (hW0.later g4).bare' (hS0_0.later ((hF.trans g4).with hBm4))).mono ?_
         rintro e w4' ⟨rfl, hf4⟩
         exact ⟨_, rfl, rfl, (hF.trans g4).past hf4 hBm4⟩
        try dsimp only at h
        obtain ⟨v4_0, qc4⟩ := r4
        try dsimp only at h
        refine ok_callo (f0_number.S a0) rfl hBv4 (fun L4 w4 g4 lt4 => ?_)
        refine (f0_number.c k _ ((q0.1, (IntKind.i64.wrap (q0.2 + 1)))) _ _ (.ok (v4_0, qc4)) hr4  w4 (hW0.later g4).bare' (hS0_0.later ((hF.trans g4).with hBm4))).mono ?_
        rintro e w4' ⟨rfl, hf4, hWc4, hq4_0⟩
        refine ⟨(v4_0, ()), rfl, hf4, fun g4' hid4 hv4 => ?_⟩
        try dsimp only
        have hSc4_0 : SlR R23.row (f0_frame.S a0) w A0_0 c0_0 qc4.1 := by rw [hq4_0]; exact hS0_0
        have hmc4 := hm0
        have hWc4 := hWc4.vis (fun b hb => hv4 b (Or.inl hb))
        have hF := Fine.own hF g4' hBm4 hid4
        obtain ⟨r5, hr5, h⟩ := bse h
        have hBv5 : ∀ b, (f0_number.S a0) b → ¬ _ ∧ b < _ := fun b hb => by exact ⟨(hWc4.lt b hb).2.1, hWc4.lt1 b hb⟩
        have hBm5 : ∀ b, (f0_number.S a0) b → (f0_frame.S a0) b ∨ w.heap.size ≤ b := fun b hb => by exact hmc4 b hb
        rcases r5 with z5 | r5
        ·try dsimp only at h
         obtain rfl := Option.some.inj h
         refine ok_callp rfl (fun L5 w5 g5 lt5 => ?_)
         refine (f0_number.c k _ qc4 _ _ _ hr5  w5 (hWc4.later g5).bare' (hSc4_0.later ((hF.trans g5).with hBm5))).mono ?_
         rintro e w5' ⟨rfl, hf5⟩
         exact ⟨_, rfl, rfl, (hF.trans g5).past hf5 hBm5⟩
        try dsimp only at h
        obtain ⟨v5_0, qc5⟩ := r5
        try dsimp only at h
        refine ok_callo (f0_number.S a0) rfl hBv5 (fun L5 w5 g5 lt5 => ?_)
        refine (f0_number.c k _ qc4 _ _ (.ok (v5_0, qc5)) hr5  w5 (hWc4.later g5).bare' (hSc4_0.later ((hF.trans g5).with hBm5))).mono ?_
        rintro e w5' ⟨rfl, hf5, hWc5, hq5_0⟩
        refine ⟨(v5_0, ()), rfl, hf5, fun g5' hid5 hv5 => ?_⟩
        try dsimp only
        have hSc5_0 : SlR R23.row (f0_frame.S a0) w A0_0 c0_0 qc5.1 := by rw [hq5_0]; exact hSc4_0
        have hmc5 := hmc4
        have hWc5 := hWc5.vis (fun b hb => hv5 b (Or.inl hb))
        have hF := Fine.own hF g5' hBm5 hid5
        obtain rfl := Option.some.inj h
        have homes := fun (b : Nat) (h : b < w.heap.size) => h
        intro ρ L w' _ he _ _
        exact ⟨none, 0, none, 0, rfl, (hF.ext he).with (fun b h => Or.inl h), (hWc5.later he.fine).bare', OwnF.ret (OwnF.nil _ (fun _ => False) _ _ _), OwnF.ret (OwnF.nil _ (fun _ => False) _ _ _), Dj.nil2, (hq5_0.trans (hq4_0.trans rfl))⟩
       ·have h := bif_f h hc30
        refine ok_if (fun hc35 => ?_) (fun hc35 => ?_)
        ·have h := bif_t h hc35
         obtain ⟨r4, hr4, h⟩ := bse h
         have hBv4 : ∀ b, (f0_number.S a0) b → ¬ _ ∧ b < _ := fun b hb => by exact ⟨(hW0.lt b hb).2.1, hW0.lt1 b hb⟩
         have hBm4 : ∀ b, (f0_number.S a0) b → (f0_frame.S a0) b ∨ w.heap.size ≤ b := fun b hb => by exact hm0 b hb
         rcases r4 with z4 | r4
         ·try dsimp only at h
          obtain rfl := Option.some.inj h
          refine ok_callp rfl (fun L4 w4 g4 lt4 => ?_)
          refine (f0_number.c k _ ((q0.1, (IntKind.i64.wrap (q0.2 + 1)))) _ _ _ hr4  w4 (hW0.later g4).bare' (hS0_0.later ((hF.trans g4).with hBm4))).mono ?_
          rintro e w4' ⟨rfl, hf4⟩
          exact ⟨_, rfl, rfl, (hF.trans g4).past hf4 hBm4⟩
         try dsimp only at h
         obtain ⟨v4_0, qc4⟩ := r4
         try dsimp only at h
         refine ok_callo (f0_number.S a0) rfl hBv4 (fun L4 w4 g4 lt4 => ?_)
         refine (f0_number.c k _ ((q0.1, (IntKind.i64.wrap (q0.2 + 1)))) _ _ (.ok (v4_0, qc4)) hr4  w4 (hW0.later g4).bare' (hS0_0.later ((hF.trans g4).with hBm4))).mono ?_
         rintro e w4' ⟨rfl, hf4, hWc4, hq4_0⟩
         refine ⟨(v4_0, ()), rfl, hf4, fun g4' hid4 hv4 => ?_⟩
         try dsimp only
         have hSc4_0 : SlR R23.row (f0_frame.S a0) w A0_0 c0_0 qc4.1 := by rw [hq4_0]; exact hS0_0
         have hmc4 := hm0
         have hWc4 := hWc4.vis (fun b hb => hv4 b (Or.inl hb))
         have hF := Fine.own hF g4' hBm4 hid4
         obtain rfl := Option.some.inj h
         have homes := fun (b : Nat) (h : b < w.heap.size) => h
         intro ρ L w' _ he _ _
         exact ⟨none, 0, none, 0, rfl, (hF.ext he).with (fun b h => Or.inl h), (hWc4.later he.fine).bare', OwnF.ret (OwnF.nil _ (fun _ => False) _ _ _), OwnF.ret (OwnF.nil _ (fun _ => False) _ _ _), Dj.nil2, (hq4_0.trans rfl)⟩
        ·have h := bif_f h hc35
         refine ok_if (fun hc38 => ?_) (fun hc38 => ?_)
         ·have h := bif_t h hc38
          obtain ⟨r4, hr4, h⟩ := bse h
          have hBv4 : ∀ b, (f0_number.S a0) b → ¬ _ ∧ b < _ := fun b hb => by exact ⟨(hW0.lt b hb).2.1, hW0.lt1 b hb⟩
          have hBm4 : ∀ b, (f0_number.S a0) b → (f0_frame.S a0) b ∨ w.heap.size ≤ b := fun b hb => by exact hm0 b hb
          rcases r4 with z4 | r4
          ·try dsimp only at h
           obtain rfl := Option.some.inj h
           refine ok_callp rfl (fun L4 w4 g4 lt4 => ?_)
           refine (f0_number.c k _ ((q0.1, (IntKind.i64.wrap (q0.2 + 1)))) _ _ _ hr4  w4 (hW0.later g4).bare' (hS0_0.later ((hF.trans g4).with hBm4))).mono ?_
           rintro e w4' ⟨rfl, hf4⟩
           exact ⟨_, rfl, rfl, (hF.trans g4).past hf4 hBm4⟩
          try dsimp only at h
          obtain ⟨v4_0, qc4⟩ := r4
          try dsimp only at h
          refine ok_callo (f0_number.S a0) rfl hBv4 (fun L4 w4 g4 lt4 => ?_)
          refine (f0_number.c k _ ((q0.1, (IntKind.i64.wrap (q0.2 + 1)))) _ _ (.ok (v4_0, qc4)) hr4  w4 (hW0.later g4).bare' (hS0_0.later ((hF.trans g4).with hBm4))).mono ?_
          rintro e w4' ⟨rfl, hf4, hWc4, hq4_0⟩
          refine ⟨(v4_0, ()), rfl, hf4, fun g4' hid4 hv4 => ?_⟩
          try dsimp only
          have hSc4_0 : SlR R23.row (f0_frame.S a0) w A0_0 c0_0 qc4.1 := by rw [hq4_0]; exact hS0_0
          have hmc4 := hm0
          have hWc4 := hWc4.vis (fun b hb => hv4 b (Or.inl hb))
          have hF := Fine.own hF g4' hBm4 hid4
          obtain rfl := Option.some.inj h
          have homes := fun (b : Nat) (h : b < w.heap.size) => h
          intro ρ L w' _ he _ _
          exact ⟨none, 0, none, 0, rfl, (hF.ext he).with (fun b h => Or.inl h), (hWc4.later he.fine).bare', OwnF.ret (OwnF.nil _ (fun _ => False) _ _ _), OwnF.ret (OwnF.nil _ (fun _ => False) _ _ _), Dj.nil2, (hq4_0.trans rfl)⟩
         ·have h := bif_f h hc38
          refine ok_if (fun hc41 => ?_) (fun hc41 => ?_)
          ·have h := bif_t h hc41
           obtain ⟨r4, hr4, h⟩ := bse h
           have hBv4 : ∀ b, (f0_number.S a0) b → ¬ _ ∧ b < _ := fun b hb => by exact ⟨(hW0.lt b hb).2.1, hW0.lt1 b hb⟩
           have hBm4 : ∀ b, (f0_number.S a0) b → (f0_frame.S a0) b ∨ w.heap.size ≤ b := fun b hb => by exact hm0 b hb
           rcases r4 with z4 | r4
           ·try dsimp only at h
            obtain rfl := Option.some.inj h
            refine ok_callp rfl (fun L4 w4 g4 lt4 => ?_)
            refine (f0_number.c k _ ((q0.1, (IntKind.i64.wrap (q0.2 + 1)))) _ _ _ hr4  w4 (hW0.later g4).bare' (hS0_0.later ((hF.trans g4).with hBm4))).mono ?_
            rintro e w4' ⟨rfl, hf4⟩
            exact ⟨_, rfl, rfl, (hF.trans g4).past hf4 hBm4⟩
           try dsimp only at h
           obtain ⟨v4_0, qc4⟩ := r4
           try dsimp only at h
           refine ok_callo (f0_number.S a0) rfl hBv4 (fun L4 w4 g4 lt4 => ?_)
           refine (f0_number.c k _ ((q0.1, (IntKind.i64.wrap (q0.2 + 1)))) _ _ (.ok (v4_0, qc4)) hr4  w4 (hW0.later g4).bare' (hS0_0.later ((hF.trans g4).with hBm4))).mono ?_
           rintro e w4' ⟨rfl, hf4, hWc4, hq4_0⟩
           refine ⟨(v4_0, ()), rfl, hf4, fun g4' hid4 hv4 => ?_⟩
           try dsimp only
           have hSc4_0 : SlR R23.row (f0_frame.S a0) w A0_0 c0_0 qc4.1 := by rw [hq4_0]; exact hS0_0
           have hmc4 := hm0
           have hWc4 := hWc4.vis (fun b hb => hv4 b (Or.inl hb))
           have hF := Fine.own hF g4' hBm4 hid4
           obtain ⟨r5, hr5, h⟩ := bse h
           have hBv5 : ∀ b, (f0_number.S a0) b → ¬ _ ∧ b < _ := fun b hb => by exact ⟨(hWc4.lt b hb).2.1, hWc4.lt1 b hb⟩
           have hBm5 : ∀ b, (f0_number.S a0) b → (f0_frame.S a0) b ∨ w.heap.size ≤ b := fun b hb => by exact hmc4 b hb
           rcases r5 with z5 | r5
           ·try dsimp only at h
            obtain rfl := Option.some.inj h
            refine ok_callp rfl (fun L5 w5 g5 lt5 => ?_)
            refine (f0_number.c k _ qc4 _ _ _ hr5  w5 (hWc4.later g5).bare' (hSc4_0.later ((hF.trans g5).with hBm5))).mono ?_
            rintro e w5' ⟨rfl, hf5⟩
            exact ⟨_, rfl, rfl, (hF.trans g5).past hf5 hBm5⟩
           try dsimp only at h
           obtain ⟨v5_0, qc5⟩ := r5
           try dsimp only at h
           refine ok_callo (f0_number.S a0) rfl hBv5 (fun L5 w5 g5 lt5 => ?_)
           refine (f0_number.c k _ qc4 _ _ (.ok (v5_0, qc5)) hr5  w5 (hWc4.later g5).bare' (hSc4_0.later ((hF.trans g5).with hBm5))).mono ?_
           rintro e w5' ⟨rfl, hf5, hWc5, hq5_0⟩
           refine ⟨(v5_0, ()), rfl, hf5, fun g5' hid5 hv5 => ?_⟩
           try dsimp only
           have hSc5_0 : SlR R23.row (f0_frame.S a0) w A0_0 c0_0 qc5.1 := by rw [hq5_0]; exact hSc4_0
           have hmc5 := hmc4
           have hWc5 := hWc5.vis (fun b hb => hv5 b (Or.inl hb))
           have hF := Fine.own hF g5' hBm5 hid5
           obtain ⟨r6, hr6, h⟩ := bse h
           have hBv6 : ∀ b, (f0_take.S a0) b → ¬ _ ∧ b < _ := fun b hb => by exact ⟨(hWc5.lt b hb).2.1, hWc5.lt1 b hb⟩
           have hBm6 : ∀ b, (f0_take.S a0) b → (f0_frame.S a0) b ∨ w.heap.size ≤ b := fun b hb => by exact hmc5 b hb
           rcases r6 with z6 | r6
           ·try dsimp only at h
            obtain rfl := Option.some.inj h
            refine ok_callp rfl (fun L6 w6 g6 lt6 => ?_)
            refine (f0_take.c k _ qc5 _ _ v5_0 _ hr6  w6 (hWc5.later g6).bare' (hSc5_0.later ((hF.trans g6).with hBm6))).mono ?_
            rintro e w6' ⟨rfl, hf6⟩
            exact ⟨_, rfl, rfl, (hF.trans g6).past hf6 hBm6⟩
           try dsimp only at h
           obtain ⟨s6_0, qc6⟩ := r6
           try dsimp only at h
           refine ok_callo (f0_take.S a0) rfl hBv6 (fun L6 w6 g6 lt6 => ?_)
           refine (f0_take.c k _ qc5 _ _ v5_0 (.ok (s6_0, qc6)) hr6  w6 (hWc5.later g6).bare' (hSc5_0.later ((hF.trans g6).with hBm6))).mono ?_
           rintro e w6' ⟨A6_0, c6_0, rfl, hf6, hWc6, hO6_0, hq6_0⟩
           refine ⟨((A6_0, s6_0.length, c6_0), ()), rfl, hf6, fun g6' hid6 hv6 => ?_⟩
           try dsimp only
           have hSc6_0 : SlR R23.row (f0_frame.S a0) w A0_0 c0_0 qc6.1 := by rw [hq6_0]; exact hSc5_0
           have dk6_o46 : Dj A6_0 a0 := Dj.new hO6_0.fresh (fun b hb => Nat.lt_of_lt_of_le (hBv6 b hb).2 g6.size)
           have hmc6 := hmc5
           have hWc6 := hWc6.vis (fun b hb => hv6 b (Or.inl hb))
           have hO6_0 := hO6_0.call (hF.trans g6).size lt6
           have hF := Fine.own hF g6' hBm6 hid6
           obtain rfl := Option.some.inj h
           have homes := fun (b : Nat) (h : b < w.heap.size) => h
           intro ρ L w' _ he _ _
           exact ⟨A6_0, c6_0, none, 0, rfl, (hF.ext he).with (fun b h => Or.inl h), (hWc6.later he.fine).bare', (hO6_0.later he.fine).ret, OwnF.ret (OwnF.nil _ (fun _ => False) _ _ _), Dj.nil2, (hq6_0.trans (hq5_0.trans (hq4_0.trans rfl)))⟩
          ·have h := bif_f h hc41
           refine ok_need rfl ?_
           refine ok_if (fun hc49 => ?_) (fun hc49 => ?_)
           ·have h := bif_t h hc49
            obtain ⟨r4, hr4, h⟩ := bse h
            rcases r4 with z4 | r4
            ·try dsimp only at h
             obtain rfl := Option.some.inj h
             refine ok_callp rfl (fun L4 w4 g4 lt4 => ?_)
             refine (frames_needs.c k true 5 q0.2 _ hr4  w4 ).mono ?_
             rintro e w4' ⟨rfl, hb4⟩
             exact ⟨_, rfl, rfl, ((hF.trans g4).step hb4).with (fun b h => Or.inl h)⟩
            try dsimp only at h
            refine ok_callm rfl (fun L4 w4 g4 lt4 => ?_)
            refine (frames_needs.c k true 5 q0.2 (.ok r4) hr4  w4 ).mono ?_
            rintro e w4' ⟨rfl, hb4⟩
            refine ⟨(()), rfl, hb4, fun g4' => ?_⟩
            try dsimp only
            have hF := hF.trans g4'
            have hW0 := hW0.later g4'
            obtain ⟨r5, hr5, h⟩ := bse h
            have hBv5 : ∀ b, (f0_stream.S a0) b → ¬ _ ∧ b < _ := fun b hb => by exact ⟨(hW0.lt b hb).2.1, hW0.lt1 b hb⟩
            have hBm5 : ∀ b, (f0_stream.S a0) b → (f0_frame.S a0) b ∨ w.heap.size ≤ b := fun b hb => by exact hm0 b hb
            rcases r5 with z5 | r5
            ·try dsimp only at h
             obtain rfl := Option.some.inj h
             refine ok_callp rfl (fun L5 w5 g5 lt5 => ?_)
             refine (f0_stream.c k _ ((q0.1, (IntKind.i64.wrap (q0.2 + 1)))) _ _ (IntKind.i64.wrap r3) q0.2 _ hr5  w5 (hW0.later g5).bare' (hS0_0.later ((hF.trans g5).with hBm5))).mono ?_
             rintro e w5' ⟨rfl, hf5⟩
             exact ⟨_, rfl, rfl, (hF.trans g5).past hf5 hBm5⟩
            try dsimp only at h
            obtain ⟨v5_0, v5_1, v5_2, v5_3, v5_4, v5_5, s5_6, s5_7, qc5⟩ := r5
            try dsimp only at h
            refine ok_callo (f0_stream.S a0) rfl hBv5 (fun L5 w5 g5 lt5 => ?_)
            refine (f0_stream.c k _ ((q0.1, (IntKind.i64.wrap (q0.2 + 1)))) _ _ (IntKind.i64.wrap r3) q0.2 (.ok (v5_0, v5_1, v5_2, v5_3, v5_4, v5_5, s5_6, s5_7, qc5)) hr5  w5 (hW0.later g5).bare' (hS0_0.later ((hF.trans g5).with hBm5))).mono ?_
            rintro e w5' ⟨A5_6, c5_6, A5_7, c5_7, rfl, hf5, hWc5, hO5_6, hO5_7, dd5_1_0, hq5_0⟩
            refine ⟨(v5_0, v5_1, v5_2, v5_3, v5_4, v5_5, (A5_6, s5_6.length, c5_6), (A5_7, s5_7.length, c5_7), ()), rfl, hf5, fun g5' hid5 hv5 => ?_⟩
            try dsimp only
            have hSc5_0 : SlR R23.row (f0_frame.S a0) w A0_0 c0_0 qc5.1 := by rw [hq5_0]; exact hS0_0
            have dk5_o50 : Dj A5_6 a0 := Dj.new hO5_6.fresh (fun b hb => Nat.lt_of_lt_of_le (hBv5 b hb).2 g5.size)
            have dk5_o51 : Dj A5_7 a0 := Dj.new hO5_7.fresh (fun b hb => Nat.lt_of_lt_of_le (hBv5 b hb).2 g5.size)
            have hmc5 := hm0
            have hWc5 := hWc5.vis (fun b hb => hv5 b (Or.inl hb))
            have hO5_6 := hO5_6.call (hF.trans g5).size lt5
            have hO5_7 := hO5_7.call (hF.trans g5).size lt5
            have hF := Fine.own hF g5' hBm5 hid5
            obtain rfl := Option.some.inj h
            have homes := fun (b : Nat) (h : b < w.heap.size) => h
            intro ρ L w' _ he _ _
            exact ⟨A5_6, c5_6, A5_7, c5_7, rfl, (hF.ext he).with (fun b h => Or.inl h), (hWc5.later he.fine).bare', (hO5_6.later he.fine).ret, (hO5_7.later he.fine).ret, dd5_1_0, (hq5_0.trans rfl)⟩
           ·have h := bif_f h hc49
            obtain ⟨r4, hr4, h⟩ := bse h
            rcases r4 with z4 | r4
            ·try dsimp only at h
             obtain rfl := Option.some.inj h
             refine ok_callp rfl (fun L4 w4 g4 lt4 => ?_)
             refine (frames_needs.c k false 5 q0.2 _ hr4  w4 ).mono ?_
             rintro e w4' ⟨rfl, hb4⟩
             exact ⟨_, rfl, rfl, ((hF.trans g4).step hb4).with (fun b h => Or.inl h)⟩
            try dsimp only at h
            refine ok_callm rfl (fun L4 w4 g4 lt4 => ?_)
            refine (frames_needs.c k false 5 q0.2 (.ok r4) hr4  w4 ).mono ?_
            rintro e w4' ⟨rfl, hb4⟩
            refine ⟨(()), rfl, hb4, fun g4' => ?_⟩
            try dsimp only
            have hF := hF.trans g4'
            have hW0 := hW0.later g4'
            obtain ⟨r5, hr5, h⟩ := bse h
            have hBv5 : ∀ b, (f0_stream.S a0) b → ¬ _ ∧ b < _ := fun b hb => by exact ⟨(hW0.lt b hb).2.1, hW0.lt1 b hb⟩
            have hBm5 : ∀ b, (f0_stream.S a0) b → (f0_frame.S a0) b ∨ w.heap.size ≤ b := fun b hb => by exact hm0 b hb
            rcases r5 with z5 | r5
            ·try dsimp only at h
             obtain rfl := Option.some.inj h
             refine ok_callp rfl (fun L5 w5 g5 lt5 => ?_)
             refine (f0_stream.c k _ ((q0.1, (IntKind.i64.wrap (q0.2 + 1)))) _ _ (IntKind.i64.wrap r3) q0.2 _ hr5  w5 (hW0.later g5).bare' (hS0_0.later ((hF.trans g5).with hBm5))).mono ?_
             rintro e w5' ⟨rfl, hf5⟩
             exact ⟨_, rfl, rfl, (hF.trans g5).past hf5 hBm5⟩
            try dsimp only at h
            obtain ⟨v5_0, v5_1, v5_2, v5_3, v5_4, v5_5, s5_6, s5_7, qc5⟩ := r5
            try dsimp only at h
            refine ok_callo (f0_stream.S a0) rfl hBv5 (fun L5 w5 g5 lt5 => ?_)
            refine (f0_stream.c k _ ((q0.1, (IntKind.i64.wrap (q0.2 + 1)))) _ _ (IntKind.i64.wrap r3) q0.2 (.ok (v5_0, v5_1, v5_2, v5_3, v5_4, v5_5, s5_6, s5_7, qc5)) hr5  w5 (hW0.later g5).bare' (hS0_0.later ((hF.trans g5).with hBm5))).mono ?_
            rintro e w5' ⟨A5_6, c5_6, A5_7, c5_7, rfl, hf5, hWc5, hO5_6, hO5_7, dd5_1_0, hq5_0⟩
            refine ⟨(v5_0, v5_1, v5_2, v5_3, v5_4, v5_5, (A5_6, s5_6.length, c5_6), (A5_7, s5_7.length, c5_7), ()), rfl, hf5, fun g5' hid5 hv5 => ?_⟩
            try dsimp only
            have hSc5_0 : SlR R23.row (f0_frame.S a0) w A0_0 c0_0 qc5.1 := by rw [hq5_0]; exact hS0_0
            have dk5_o54 : Dj A5_6 a0 := Dj.new hO5_6.fresh (fun b hb => Nat.lt_of_lt_of_le (hBv5 b hb).2 g5.size)
            have dk5_o55 : Dj A5_7 a0 := Dj.new hO5_7.fresh (fun b hb => Nat.lt_of_lt_of_le (hBv5 b hb).2 g5.size)
            have hmc5 := hm0
            have hWc5 := hWc5.vis (fun b hb => hv5 b (Or.inl hb))
            have hO5_6 := hO5_6.call (hF.trans g5).size lt5
            have hO5_7 := hO5_7.call (hF.trans g5).size lt5
            have hF := Fine.own hF g5' hBm5 hid5
            obtain rfl := Option.some.inj h
            have homes := fun (b : Nat) (h : b < w.heap.size) => h
            intro ρ L w' _ he _ _
            exact ⟨A5_6, c5_6, A5_7, c5_7, rfl, (hF.ext he).with (fun b h => Or.inl h), (hWc5.later he.fine).bare', (hO5_6.later he.fine).ret, (hO5_7.later he.fine).ret, dd5_1_0, (hq5_0.trans rfl)⟩
end Go.Proofs.Ytpdchohbmmfemaa.X
