import Derived.Test.YtpdchohbmmfemaazRxU
import Derived.Test.YtpdchohbmmfemaazRxSeat
import Derived.Test.YtpdchohbmmfemaaProg
import Derived.Test.YtpdchohbmmfemaazFd
namespace Go.Proofs.Ytpdchohbmmfemaa.X
open Go Go.RowKit Go.Proofs.YtpdchohbmmfemaaW.Rx
set_option linter.unusedVariables false
set_option linter.unusedSimpArgs false
set_option maxRecDepth 10000
def frames_put.F (k : Nat) (l0 : List Int) (l1 : List Int) : Option (List Int) := if l1 = [] then none else l1.foldlM (fun b n => (vint_Put.F k b n).map (·.1)) l0
abbrev frames_put.A : Nat → LA := fun r => if r = 2 then ⟨[(0, false, [Lf.sl]), (9, false, [Lf.i .i64])], []⟩ else ⟨[], []⟩
set_option maxHeartbeats 4000000 in
theorem frames_put.t (A0 : Option Addr) (n0 c0 : Nat) (A1 : Option Addr) (n1 c1 : Nat) : tree Try.prog frames_put.A noC Try.f41 [AV.v (Value.slice A0 n0 c0), AV.v (Value.slice A1 n1 c1)] [] =
  .loop ([Lf.sl, Lf.i .i64]) (((A0, n0, c0), 0, PUnit.unit)) 0 (fun x0 =>
   bif decide (x0.2.1 < (n1 : Int)) then (
    .need (decide (0 ≤ x0.2.1) && decide (x0.2.1 < (n1 : Int)) && Option.isSome A1) (
    .ld (Option.map (fun x => Addr.add x (Int.toNat x0.2.1 * 1)) A1) ([Lf.i .i64]) (fun x1 =>
     .call 58 ([AV.v (Value.slice x0.1.1 x0.1.2.1 x0.1.2.2), AV.v (.int .i64 x1.1)]) ([]) (Sh.tup [(false, 1), (false, 1)]) ([Lf.sl, Lf.i .i64]) ([]) (fun x2 =>
      .again 0 ([Lf.sl, Lf.i .i64]) (((x2.1.1, x2.1.2.1, x2.1.2.2), IntKind.i64.wrap (x0.2.1 + 1), PUnit.unit))))))
   else (
    .done (AV.v (Value.slice x0.1.1 x0.1.2.1 x0.1.2.2)) ([]))) := by kernel_rfl
set_option maxHeartbeats 4000000 in
theorem frames_put.c (k : Nat) (A0 : Option Addr) (n0 c0 : Nat) (l0 : List Int) (A1 : Option Addr) (n1 c1 : Nat) (l1 : List Int) (r : List Int) (h : frames_put.F k l0 l1 = some r) (hn0 : n0 = l0.length) (hn1 : n1 = l1.length) (w : World) (hS0 : SlR R23.row (fun _ => False) w A0 c0 l0) (hS1 : SlR R76.row (fun _ => False) w A1 c1 l1) : Calls Try.prog 41 (AV.gs id [AV.v (Value.slice A0 n0 c0), AV.v (Value.slice A1 n1 c1)]).toArray w fun e w' => ∃ (B0 : Option Addr) (d0 : Nat), e = .returned (((Sh.one : Sh).av (vs [Lf.sl] ((B0, (r).length, d0), ()))).g id) ∧ Below w.heap.size w w' ∧ OwnF w.heap.size (fun b => b < w.heap.size) w' 5 R23 B0 d0 r := by
 subst hn0
 subst hn1
 have hmx := hS1.2.2
 unfold frames_put.F at h
 split at h
 ·cases h
 rename_i hne
 have hpos : 0 < l1.length := List.length_pos_iff.2 hne
 refine enter0 mixed frames_put.A noC [AV.v (Value.slice A0 l0.length c0), AV.v (Value.slice A1 l1.length c1)] Try.func41 rfl rfl rfl (fun hF => ?_)
 rw [frames_put.t]
 obtain ⟨I, hI⟩ : ∃ I : Nat → Tup [Lf.sl, Lf.i .i64] → (Nat → Prop) → World → Prop, I = (fun m y L w' => ∃ (j : Nat) (A : Option Addr) (c : Nat) (b : List Int), m + j = l1.length ∧ y = ((A, b.length, c), (j : Int), ()) ∧ (l1.drop j).foldlM (fun b n => (vint_Put.F k b n).map (·.1)) b = some r ∧ Fine (fun _ => False) w L w' ∧ SlR R23.row L w' A c b ∧ (j = 0 ∨ OwnF w.heap.size L w' 5 R23 A c b)) := ⟨_, rfl⟩
 refine ok_loop I l1.length (by rw [hI]; exact ⟨0, A0, c0, l0, rfl, rfl, by rw [List.drop_zero]; exact h, hF, hS0, Or.inl rfl⟩) ?_
 intro m y L1 w1 hy
 rw [hI] at hy
 obtain ⟨j, A, c, b, hm, rfl, hf, hF, hS, ho⟩ := hy
 dsimp only
 refine ok_if (fun hc => ?_) (fun hc => ?_)
 ·have hlt : j < l1.length := by have : (j : Int) < (l1.length : Int) := of_decide_eq_true hc; omega
  obtain ⟨x, hx⟩ : ∃ x, l1[j]? = some x := ⟨_, List.getElem?_eq_getElem hlt⟩
  have gx : getI l1 (j : Int) = some x := by rw [getI_nat]; exact hx
  have hd : l1.drop j = x :: l1.drop (j + 1) := by rw [List.drop_eq_getElem_cons hlt]; congr 1; rw [List.getElem?_eq_getElem hlt] at hx; exact Option.some.inj hx
  rw [hd, List.foldlM_cons] at hf
  obtain ⟨b', hb', hf⟩ := bse hf
  obtain ⟨q, hq, rfl⟩ := Option.map_eq_some_iff.1 hb'
  refine ok_need (getI_need (hS1.later hF) gx) ?_
  refine ok_get hS1 hF gx (by simp) (fun cs hcs => ⟨(x, ()), hcs.symm, ?_⟩)
  dsimp only
  refine ok_callm rfl (fun L w2 g lt => ?_)
  refine (vint_Put.c k A b.length c b x q hq rfl w2 (hS.later g).bare).mono ?_
  rintro e w3 ⟨B, d, rfl, hb, hO⟩
  refine ⟨((B, q.1.length, d), q.2, ()), rfl, hb, fun g' => ?_⟩
  dsimp only
  have hO := hO.call (hF.trans g).size lt
  have hF := hF.trans g'
  have f1 : IntKind.i64.wrap ((j : Int) + 1) = ((j + 1 : Nat) : Int) := by rw [wrap_in] <;> omega
  exact ok_again (I := I) (m - 1) (by omega) (fun L w' he => by rw [hI]; exact ⟨j + 1, B, d, q.1, by omega, by rw [f1], hf, hF.trans he.fine, hO.sl.later he.fine, Or.inr (hO.later he.fine)⟩)
 ·have hge : ¬ ((j : Int) < (l1.length : Int)) := of_decide_eq_false hc
  rw [List.drop_of_length_le (by omega)] at hf
  obtain rfl := Option.some.inj hf
  have ho : OwnF w.heap.size L1 w1 5 R23 A c b := ho.resolve_left (by omega)
  intro ρ L w' _ he _ _
  exact ⟨A, c, rfl, (hF.ext he).below, (ho.later he.fine).ret⟩
def frames_one.F (k : Nat) (a0_0 : Int) (a0_1 : Int) (a0_2 : Int) (a0_3 : Int) (a0_4 : Int) (a0_5 : Bool) (l0_6 : List Int) (l0_7 : List (Int × Int)) : Option ((List Int)) := bif a0_0 == 2 then ((getI l0_7 (IntKind.i64.wrap (((l0_7.length : Nat) : Int) - 1))).bind fun r2 => (frames_put.F k (([(2)] : List Int)) (([(IntKind.i64.wrap (IntKind.i64.wrap (r2.2 + 2) - 2)), (a0_3), (IntKind.i64.wrap (((l0_7.length : Nat) : Int) - 1))] : List Int))).bind fun s3_0 => none) else (bif a0_0 == 4 then ((frames_put.F k (([(4)] : List Int)) (([(a0_1), (a0_4), (a0_2)] : List Int))).bind fun s2_0 => some s2_0) else (bif a0_0 == 5 then ((frames_put.F k (([(5)] : List Int)) (([(a0_1), (a0_4)] : List Int))).bind fun s2_0 => some s2_0) else (bif a0_0 == 8 then (bif a0_5 then ((frames_put.F k (([(IntKind.wrap IntKind.u8 ((15 : Nat) : Int))] : List Int)) (([(a0_1), (a0_2), (((l0_6.length : Nat) : Int))] : List Int))).bind fun s2_0 => bif decide ((s2_0.length + l0_6.length) * 1 ≤ 140737488355328) then (some (((s2_0 ++ l0_6)))) else none) else ((frames_put.F k (([(14)] : List Int)) (([(a0_1), (a0_2), (((l0_6.length : Nat) : Int))] : List Int))).bind fun s2_0 => bif decide ((s2_0.length + l0_6.length) * 1 ≤ 140737488355328) then (some (((s2_0 ++ l0_6)))) else none)) else (bif a0_0 == 17 then ((frames_put.F k (([(17)] : List Int)) (([(a0_1), (a0_3)] : List Int))).bind fun s2_0 => some s2_0) else (bif a0_0 == 16 then ((frames_put.F k (([(IntKind.wrap IntKind.u8 a0_0)] : List Int)) (([(a0_3)] : List Int))).bind fun s2_0 => some s2_0) else (bif a0_0 == 18 then ((frames_put.F k (([(IntKind.wrap IntKind.u8 a0_0)] : List Int)) (([(a0_3)] : List Int))).bind fun s2_0 => some s2_0) else (bif a0_0 == 28 then ((frames_put.F k (([(28)] : List Int)) (([(a0_4), (((l0_6.length : Nat) : Int))] : List Int))).bind fun s2_0 => bif decide ((s2_0.length + l0_6.length) * 1 ≤ 140737488355328) then (some (((s2_0 ++ l0_6)))) else none) else (some ((([(IntKind.wrap IntKind.u8 a0_0)] : List Int)))))))))))
abbrev frames_one.A : Nat → LA := noA
set_option maxHeartbeats 4000000 in
theorem frames_one.t (a0_0 : Int) (a0_1 : Int) (a0_2 : Int) (a0_3 : Int) (a0_4 : Int) (a0_5 : Bool) (A0_6 : Option Addr) (n0_6 c0_6 : Nat) (A0_7 : Option Addr) (n0_7 c0_7 : Nat) : tree Try.prog frames_one.A noC Try.f23 [AV.agg [AV.v (.int .i64 a0_0), AV.v (.int .i64 a0_1), AV.v (.int .i64 a0_2), AV.v (.int .i64 a0_3), AV.v (.int .i64 a0_4), AV.v (Value.bool a0_5), AV.v (Value.slice A0_6 n0_6 c0_6), AV.v (Value.slice A0_7 n0_7 c0_7)]] [] =
  bif a0_0 == 2 then (
   .need (decide (0 ≤ IntKind.i64.wrap (((n0_7 : Nat) : Int) - 1)) && decide (IntKind.i64.wrap (((n0_7 : Nat) : Int) - 1) < ((n0_7 : Nat) : Int)) && Option.isSome A0_7) (
   .need (Option.isSome (Option.map (fun x => Addr.add x (Int.toNat (IntKind.i64.wrap (((n0_7 : Nat) : Int) - 1)) * 2)) A0_7)) (
   .ld (Option.map (fun x => Addr.add x 1) (Option.map (fun x => Addr.add x (Int.toNat (IntKind.i64.wrap (((n0_7 : Nat) : Int) - 1)) * 2)) A0_7)) ([Lf.i .i64]) (fun x0 =>
    .sem (Instr.buildSlice 23 1 { toList := [(0, Value.int IntKind.u8 2)] }) ([Lf.sl]) (Sh.one) (fun x1 =>
     .sem (Instr.buildSlice 76 3 { toList := [(0, Value.int IntKind.i64 (IntKind.i64.wrap (IntKind.i64.wrap (x0.1 + 2) - 2))), (1, Value.int IntKind.i64 a0_3), (2, Value.int IntKind.i64 (IntKind.i64.wrap (((n0_7 : Nat) : Int) - 1)))] }) ([Lf.sl]) (Sh.one) (fun x2 =>
      .call 41 ([AV.v (Value.slice x1.1.1 x1.1.2.1 x1.1.2.2), AV.v (Value.slice x2.1.1 x2.1.2.1 x2.1.2.2)]) ([]) (Sh.one) ([Lf.sl]) ([]) (fun x3 =>
       .bad "call: shapes")))))))
  else (
   bif a0_0 == 4 then (
    .sem (Instr.buildSlice 23 1 { toList := [(0, Value.int IntKind.u8 4)] }) ([Lf.sl]) (Sh.one) (fun x0 =>
     .sem (Instr.buildSlice 76 3 { toList := [(0, Value.int IntKind.i64 a0_1), (1, Value.int IntKind.i64 a0_4), (2, Value.int IntKind.i64 a0_2)] }) ([Lf.sl]) (Sh.one) (fun x1 =>
      .call 41 ([AV.v (Value.slice x0.1.1 x0.1.2.1 x0.1.2.2), AV.v (Value.slice x1.1.1 x1.1.2.1 x1.1.2.2)]) ([]) (Sh.one) ([Lf.sl]) ([]) (fun x2 =>
       .done (AV.v (Value.slice x2.1.1 x2.1.2.1 x2.1.2.2)) ([])))))
   else (
    bif a0_0 == 5 then (
     .sem (Instr.buildSlice 23 1 { toList := [(0, Value.int IntKind.u8 5)] }) ([Lf.sl]) (Sh.one) (fun x0 =>
      .sem (Instr.buildSlice 76 2 { toList := [(0, Value.int IntKind.i64 a0_1), (1, Value.int IntKind.i64 a0_4)] }) ([Lf.sl]) (Sh.one) (fun x1 =>
       .call 41 ([AV.v (Value.slice x0.1.1 x0.1.2.1 x0.1.2.2), AV.v (Value.slice x1.1.1 x1.1.2.1 x1.1.2.2)]) ([]) (Sh.one) ([Lf.sl]) ([]) (fun x2 =>
        .done (AV.v (Value.slice x2.1.1 x2.1.2.1 x2.1.2.2)) ([])))))
    else (
     bif a0_0 == 8 then (
      bif a0_5 then (
       .both (
        .sem (Instr.buildSlice 23 1 { toList := [(0, Value.int IntKind.u8 (IntKind.wrap IntKind.u8 ((15 : Nat) : Int)))] }) ([Lf.sl]) (Sh.one) (fun x0 =>
         .sem (Instr.buildSlice 76 3 { toList := [(0, Value.int IntKind.i64 a0_1), (1, Value.int IntKind.i64 a0_2), (2, Value.int IntKind.i64 ((n0_6 : Nat) : Int))] }) ([Lf.sl]) (Sh.one) (fun x1 =>
          .call 41 ([AV.v (Value.slice x0.1.1 x0.1.2.1 x0.1.2.2), AV.v (Value.slice x1.1.1 x1.1.2.1 x1.1.2.2)]) ([]) (Sh.one) ([Lf.sl]) ([]) (fun x2 =>
           .sem (Builtin.append_ { toList := [23, 23] } 23 { toList := [Value.slice x2.1.1 x2.1.2.1 x2.1.2.2, Value.slice A0_6 n0_6 c0_6] }) ([Lf.sl]) (Sh.one) (fun x3 =>
            .done (AV.v (Value.slice x3.1.1 x3.1.2.1 x3.1.2.2)) ([])))))) (
        .sem (Instr.buildSlice 76 3 { toList := [(0, Value.int IntKind.i64 a0_1), (1, Value.int IntKind.i64 a0_2), (2, Value.int IntKind.i64 ((n0_6 : Nat) : Int))] }) ([Lf.sl]) (Sh.one) (fun x0 =>
         .sem (Instr.buildSlice 23 1 { toList := [(0, Value.int IntKind.u8 (IntKind.wrap IntKind.u8 ((15 : Nat) : Int)))] }) ([Lf.sl]) (Sh.one) (fun x1 =>
          .call 41 ([AV.v (Value.slice x1.1.1 x1.1.2.1 x1.1.2.2), AV.v (Value.slice x0.1.1 x0.1.2.1 x0.1.2.2)]) ([]) (Sh.one) ([Lf.sl]) ([]) (fun x2 =>
           .sem (Builtin.append_ { toList := [23, 23] } 23 { toList := [Value.slice x2.1.1 x2.1.2.1 x2.1.2.2, Value.slice A0_6 n0_6 c0_6] }) ([Lf.sl]) (Sh.one) (fun x3 =>
            .done (AV.v (Value.slice x3.1.1 x3.1.2.1 x3.1.2.2)) ([])))))))
      else (
       .both (
        .sem (Instr.buildSlice 23 1 { toList := [(0, Value.int IntKind.u8 14)] }) ([Lf.sl]) (Sh.one) (fun x0 =>
         .sem (Instr.buildSlice 76 3 { toList := [(0, Value.int IntKind.i64 a0_1), (1, Value.int IntKind.i64 a0_2), (2, Value.int IntKind.i64 ((n0_6 : Nat) : Int))] }) ([Lf.sl]) (Sh.one) (fun x1 =>
          .call 41 ([AV.v (Value.slice x0.1.1 x0.1.2.1 x0.1.2.2), AV.v (Value.slice x1.1.1 x1.1.2.1 x1.1.2.2)]) ([]) (Sh.one) ([Lf.sl]) ([]) (fun x2 =>
           .sem (Builtin.append_ { toList := [23, 23] } 23 { toList := [Value.slice x2.1.1 x2.1.2.1 x2.1.2.2, Value.slice A0_6 n0_6 c0_6] }) ([Lf.sl]) (Sh.one) (fun x3 =>
            .done (AV.v (Value.slice x3.1.1 x3.1.2.1 x3.1.2.2)) ([])))))) (
        .sem (Instr.buildSlice 76 3 { toList := [(0, Value.int IntKind.i64 a0_1), (1, Value.int IntKind.i64 a0_2), (2, Value.int IntKind.i64 ((n0_6 : Nat) : Int))] }) ([Lf.sl]) (Sh.one) (fun x0 =>
         .sem (Instr.buildSlice 23 1 { toList := [(0, Value.int IntKind.u8 14)] }) ([Lf.sl]) (Sh.one) (fun x1 =>
          .call 41 ([AV.v (Value.slice x1.1.1 x1.1.2.1 x1.1.2.2), AV.v (Value.slice x0.1.1 x0.1.2.1 x0.1.2.2)]) ([]) (Sh.one) ([Lf.sl]) ([]) (fun x2 =>
           .sem (Builtin.append_ { toList := [23, 23] } 23 { toList := [Value.slice x2.1.1 x2.1.2.1 x2.1.2.2, Value.slice A0_6 n0_6 c0_6] }) ([Lf.sl]) (Sh.one) (fun x3 =>
            .done (AV.v (Value.slice x3.1.1 x3.1.2.1 x3.1.2.2)) ([]))))))))
     else (
      bif a0_0 == 17 then (
       .sem (Instr.buildSlice 23 1 { toList := [(0, Value.int IntKind.u8 17)] }) ([Lf.sl]) (Sh.one) (fun x0 =>
        .sem (Instr.buildSlice 76 2 { toList := [(0, Value.int IntKind.i64 a0_1), (1, Value.int IntKind.i64 a0_3)] }) ([Lf.sl]) (Sh.one) (fun x1 =>
         .call 41 ([AV.v (Value.slice x0.1.1 x0.1.2.1 x0.1.2.2), AV.v (Value.slice x1.1.1 x1.1.2.1 x1.1.2.2)]) ([]) (Sh.one) ([Lf.sl]) ([]) (fun x2 =>
          .done (AV.v (Value.slice x2.1.1 x2.1.2.1 x2.1.2.2)) ([])))))
      else (
       bif a0_0 == 16 then (
        .sem (Instr.buildSlice 23 1 { toList := [(0, Value.int IntKind.u8 (IntKind.wrap IntKind.u8 a0_0))] }) ([Lf.sl]) (Sh.one) (fun x0 =>
         .sem (Instr.buildSlice 76 1 { toList := [(0, Value.int IntKind.i64 a0_3)] }) ([Lf.sl]) (Sh.one) (fun x1 =>
          .call 41 ([AV.v (Value.slice x0.1.1 x0.1.2.1 x0.1.2.2), AV.v (Value.slice x1.1.1 x1.1.2.1 x1.1.2.2)]) ([]) (Sh.one) ([Lf.sl]) ([]) (fun x2 =>
           .done (AV.v (Value.slice x2.1.1 x2.1.2.1 x2.1.2.2)) ([])))))
       else (
        bif a0_0 == 18 then (
         .sem (Instr.buildSlice 23 1 { toList := [(0, Value.int IntKind.u8 (IntKind.wrap IntKind.u8 a0_0))] }) ([Lf.sl]) (Sh.one) (fun x0 =>
          .sem (Instr.buildSlice 76 1 { toList := [(0, Value.int IntKind.i64 a0_3)] }) ([Lf.sl]) (Sh.one) (fun x1 =>
           .call 41 ([AV.v (Value.slice x0.1.1 x0.1.2.1 x0.1.2.2), AV.v (Value.slice x1.1.1 x1.1.2.1 x1.1.2.2)]) ([]) (Sh.one) ([Lf.sl]) ([]) (fun x2 =>
            .done (AV.v (Value.slice x2.1.1 x2.1.2.1 x2.1.2.2)) ([])))))
        else (
         bif a0_0 == 28 then (
          .both (
           .sem (Instr.buildSlice 23 1 { toList := [(0, Value.int IntKind.u8 28)] }) ([Lf.sl]) (Sh.one) (fun x0 =>
            .sem (Instr.buildSlice 76 2 { toList := [(0, Value.int IntKind.i64 a0_4), (1, Value.int IntKind.i64 ((n0_6 : Nat) : Int))] }) ([Lf.sl]) (Sh.one) (fun x1 =>
             .call 41 ([AV.v (Value.slice x0.1.1 x0.1.2.1 x0.1.2.2), AV.v (Value.slice x1.1.1 x1.1.2.1 x1.1.2.2)]) ([]) (Sh.one) ([Lf.sl]) ([]) (fun x2 =>
              .sem (Builtin.append_ { toList := [23, 23] } 23 { toList := [Value.slice x2.1.1 x2.1.2.1 x2.1.2.2, Value.slice A0_6 n0_6 c0_6] }) ([Lf.sl]) (Sh.one) (fun x3 =>
               .done (AV.v (Value.slice x3.1.1 x3.1.2.1 x3.1.2.2)) ([])))))) (
           .sem (Instr.buildSlice 76 2 { toList := [(0, Value.int IntKind.i64 a0_4), (1, Value.int IntKind.i64 ((n0_6 : Nat) : Int))] }) ([Lf.sl]) (Sh.one) (fun x0 =>
            .sem (Instr.buildSlice 23 1 { toList := [(0, Value.int IntKind.u8 28)] }) ([Lf.sl]) (Sh.one) (fun x1 =>
             .call 41 ([AV.v (Value.slice x1.1.1 x1.1.2.1 x1.1.2.2), AV.v (Value.slice x0.1.1 x0.1.2.1 x0.1.2.2)]) ([]) (Sh.one) ([Lf.sl]) ([]) (fun x2 =>
              .sem (Builtin.append_ { toList := [23, 23] } 23 { toList := [Value.slice x2.1.1 x2.1.2.1 x2.1.2.2, Value.slice A0_6 n0_6 c0_6] }) ([Lf.sl]) (Sh.one) (fun x3 =>
               .done (AV.v (Value.slice x3.1.1 x3.1.2.1 x3.1.2.2)) ([])))))))
         else (
          .sem (Instr.buildSlice 23 1 { toList := [(0, Value.int IntKind.u8 (IntKind.wrap IntKind.u8 a0_0))] }) ([Lf.sl]) (Sh.one) (fun x0 =>
           .done (AV.v (Value.slice x0.1.1 x0.1.2.1 x0.1.2.2)) ([])))))))))) := by kernel_rfl
set_option maxHeartbeats 4000000 in
theorem frames_one.c (k : Nat) (a0_0 : Int) (a0_1 : Int) (a0_2 : Int) (a0_3 : Int) (a0_4 : Int) (a0_5 : Bool) (A0_6 : Option Addr) (n0_6 c0_6 : Nat) (l0_6 : List Int) (A0_7 : Option Addr) (n0_7 c0_7 : Nat) (l0_7 : List (Int × Int)) (r : (List Int)) (h : frames_one.F k a0_0 a0_1 a0_2 a0_3 a0_4 a0_5 l0_6 l0_7 = some r) (hn0_6 : n0_6 = l0_6.length) (hn0_7 : n0_7 = l0_7.length) (w : World) (hS0_6 : SlR R23.row (fun _ => False) w A0_6 c0_6 l0_6) (hS0_7 : SlR R34.row (fun _ => False) w A0_7 c0_7 l0_7) : Calls Try.prog 23 (AV.gs id [AV.agg [AV.v (.int .i64 a0_0), AV.v (.int .i64 a0_1), AV.v (.int .i64 a0_2), AV.v (.int .i64 a0_3), AV.v (.int .i64 a0_4), AV.v (Value.bool a0_5), AV.v (Value.slice A0_6 n0_6 c0_6), AV.v (Value.slice A0_7 n0_7 c0_7)]]).toArray w fun e w' => ∃ (B0 : Option Addr) (d0 : Nat), e = .returned (((Sh.one : Sh).av (vs [Lf.sl] ((B0, (r).length, d0), ()))).g id) ∧ Below w.heap.size w w' ∧ OwnF w.heap.size (fun b => b < w.heap.size) w' 5 R23 B0 d0 r := by
 subst hn0_6
 subst hn0_7
 refine enter0 mixed frames_one.A noC [AV.agg [AV.v (.int .i64 a0_0), AV.v (.int .i64 a0_1), AV.v (.int .i64 a0_2), AV.v (.int .i64 a0_3), AV.v (.int .i64 a0_4), AV.v (Value.bool a0_5), AV.v (Value.slice A0_6 l0_6.length c0_6), AV.v (Value.slice A0_7 l0_7.length c0_7)]] Try.func23 rfl rfl rfl (fun hF => ?_)
 rw [frames_one.t]
 unfold frames_one.F at h
 try dsimp only at h
 refine ok_if (fun hc1 => ?_) (fun hc1 => ?_)
 ·have h := bif_t h hc1
  obtain ⟨r2, hr3, h⟩ := bse h
  refine ok_need (getI_need (hS0_7.later hF) hr3) ?_
  refine ok_need (getI_need2 (hS0_7.later hF) hr3) ?_
  refine ok_getf 1 hS0_7 hF hr3 (fun cs hcs => ⟨r2.2, by rw [hcs]; rfl, ?_⟩)
  try dsimp only
  refine ok_lit (R := R23) (base := w.heap.size) (xs := ([(2)] : List Int)) #[Value.int IntKind.u8 2] E23 rfl (by decide) (by decide) ⟨_, _, rfl, rfl, by kernel_rfl⟩ rfl hF.size (fun Ax1 cx1 L1 w1 hO1 g1 hbl1 => ?_)
  try dsimp only
  have hF := hF.trans g1
  refine ok_lit (R := R76) (base := w.heap.size) (xs := ([(IntKind.i64.wrap (IntKind.i64.wrap (r2.2 + 2) - 2)), (a0_3), (IntKind.i64.wrap (((l0_7.length : Nat) : Int) - 1))] : List Int)) #[Value.int IntKind.i64 (IntKind.i64.wrap (IntKind.i64.wrap (r2.2 + 2) - 2)), Value.int IntKind.i64 a0_3, Value.int IntKind.i64 (IntKind.i64.wrap (((l0_7.length : Nat) : Int) - 1))] E76 rfl (by decide) (by decide) ⟨_, _, rfl, rfl, by kernel_rfl⟩ rfl hF.size (fun Ax2 cx2 L2 w2 hO2 g2 hbl2 => ?_)
  try dsimp only
  have dj_o5_o4 : Dj Ax2 Ax1 := Dj.new hbl2 hO1.lt
  have hF := hF.trans g2
  have hO1 := hO1.later g2
  obtain ⟨s3_0, hr3, h⟩ := bse h
  refine ok_callm rfl (fun L3 w3 g3 lt3 => ?_)
  refine (frames_put.c k _ _ _ (([(2)] : List Int)) _ _ _ (([(IntKind.i64.wrap (IntKind.i64.wrap (r2.2 + 2) - 2)), (a0_3), (IntKind.i64.wrap (((l0_7.length : Nat) : Int) - 1))] : List Int)) s3_0 hr3 rfl rfl w3 (hO1.later g3).sl.bare (hO2.later g3).sl.bare).mono ?_
  rintro e w3' ⟨A3_0, c3_0, rfl, hb3, hO3_0⟩
  refine ⟨((A3_0, s3_0.length, c3_0), ()), rfl, hb3, fun g3' => ?_⟩
  try dsimp only
  have dj_o6_o4 : Dj A3_0 Ax1 := Dj.new hO3_0.fresh (hO1.later g3).lt
  have dj_o6_o5 : Dj A3_0 Ax2 := Dj.new hO3_0.fresh (hO2.later g3).lt
  have hO3_0 := hO3_0.call (hF.trans g3).size lt3
  have hF := hF.trans g3'
  have hO1 := hO1.later g3'
  have hO2 := hO2.later g3'
  cases h
 ·have h := bif_f h hc1
  refine ok_if (fun hc7 => ?_) (fun hc7 => ?_)
  ·have h := bif_t h hc7
   refine ok_lit (R := R23) (base := w.heap.size) (xs := ([(4)] : List Int)) #[Value.int IntKind.u8 4] E23 rfl (by decide) (by decide) ⟨_, _, rfl, rfl, by kernel_rfl⟩ rfl hF.size (fun Ax0 cx0 L0 w0 hO0 g0 hbl0 => ?_)
   try dsimp only
   have hF := hF.trans g0
   refine ok_lit (R := R76) (base := w.heap.size) (xs := ([(a0_1), (a0_4), (a0_2)] : List Int)) #[Value.int IntKind.i64 a0_1, Value.int IntKind.i64 a0_4, Value.int IntKind.i64 a0_2] E76 rfl (by decide) (by decide) ⟨_, _, rfl, rfl, by kernel_rfl⟩ rfl hF.size (fun Ax1 cx1 L1 w1 hO1 g1 hbl1 => ?_)
   try dsimp only
   have dj_o9_o8 : Dj Ax1 Ax0 := Dj.new hbl1 hO0.lt
   have hF := hF.trans g1
   have hO0 := hO0.later g1
   obtain ⟨s2_0, hr2, h⟩ := bse h
   refine ok_callm rfl (fun L2 w2 g2 lt2 => ?_)
   refine (frames_put.c k _ _ _ (([(4)] : List Int)) _ _ _ (([(a0_1), (a0_4), (a0_2)] : List Int)) s2_0 hr2 rfl rfl w2 (hO0.later g2).sl.bare (hO1.later g2).sl.bare).mono ?_
   rintro e w2' ⟨A2_0, c2_0, rfl, hb2, hO2_0⟩
   refine ⟨((A2_0, s2_0.length, c2_0), ()), rfl, hb2, fun g2' => ?_⟩
   try dsimp only
   have dj_o10_o8 : Dj A2_0 Ax0 := Dj.new hO2_0.fresh (hO0.later g2).lt
   have dj_o10_o9 : Dj A2_0 Ax1 := Dj.new hO2_0.fresh (hO1.later g2).lt
   have hO2_0 := hO2_0.call (hF.trans g2).size lt2
   have hF := hF.trans g2'
   have hO0 := hO0.later g2'
   have hO1 := hO1.later g2'
   obtain rfl := Option.some.inj h
   intro ρ L w' _ he _ _
   exact ⟨A2_0, c2_0, rfl, (hF.ext he).below, (hO2_0.later he.fine).ret⟩
  ·have h := bif_f h hc7
   refine ok_if (fun hc11 => ?_) (fun hc11 => ?_)
   ·have h := bif_t h hc11
    refine ok_lit (R := R23) (base := w.heap.size) (xs := ([(5)] : List Int)) #[Value.int IntKind.u8 5] E23 rfl (by decide) (by decide) ⟨_, _, rfl, rfl, by kernel_rfl⟩ rfl hF.size (fun Ax0 cx0 L0 w0 hO0 g0 hbl0 => ?_)
    try dsimp only
    have hF := hF.trans g0
    refine ok_lit (R := R76) (base := w.heap.size) (xs := ([(a0_1), (a0_4)] : List Int)) #[Value.int IntKind.i64 a0_1, Value.int IntKind.i64 a0_4] E76 rfl (by decide) (by decide) ⟨_, _, rfl, rfl, by kernel_rfl⟩ rfl hF.size (fun Ax1 cx1 L1 w1 hO1 g1 hbl1 => ?_)
    try dsimp only
    have dj_o13_o12 : Dj Ax1 Ax0 := Dj.new hbl1 hO0.lt
    have hF := hF.trans g1
    have hO0 := hO0.later g1
    obtain ⟨s2_0, hr2, h⟩ := bse h
    refine ok_callm rfl (fun L2 w2 g2 lt2 => ?_)
    refine (frames_put.c k _ _ _ (([(5)] : List Int)) _ _ _ (([(a0_1), (a0_4)] : List Int)) s2_0 hr2 rfl rfl w2 (hO0.later g2).sl.bare (hO1.later g2).sl.bare).mono ?_
    rintro e w2' ⟨A2_0, c2_0, rfl, hb2, hO2_0⟩
    refine ⟨((A2_0, s2_0.length, c2_0), ()), rfl, hb2, fun g2' => ?_⟩
    try dsimp only
    have dj_o14_o12 : Dj A2_0 Ax0 := Dj.new hO2_0.fresh (hO0.later g2).lt
    have dj_o14_o13 : Dj A2_0 Ax1 := Dj.new hO2_0.fresh (hO1.later g2).lt
    have hO2_0 := hO2_0.call (hF.trans g2).size lt2
    have hF := hF.trans g2'
    have hO0 := hO0.later g2'
    have hO1 := hO1.later g2'
    obtain rfl := Option.some.inj h
    intro ρ L w' _ he _ _
    exact ⟨A2_0, c2_0, rfl, (hF.ext he).below, (hO2_0.later he.fine).ret⟩
   ·have h := bif_f h hc11
    refine ok_if (fun hc15 => ?_) (fun hc15 => ?_)
    ·have h := bif_t h hc15
     refine ok_if (fun hc16 => ?_) (fun hc16 => ?_)
     ·have h := bif_t h hc16
      refine ⟨?_, ?_⟩
      ·refine ok_lit (R := R23) (base := w.heap.size) (xs := ([(IntKind.wrap IntKind.u8 ((15 : Nat) : Int))] : List Int)) #[Value.int IntKind.u8 (IntKind.wrap IntKind.u8 ((15 : Nat) : Int))] E23 rfl (by decide) (by decide) ⟨_, _, rfl, rfl, by kernel_rfl⟩ rfl hF.size (fun Ax0 cx0 L0 w0 hO0 g0 hbl0 => ?_)
       try dsimp only
       have hF := hF.trans g0
       refine ok_lit (R := R76) (base := w.heap.size) (xs := ([(a0_1), (a0_2), (((l0_6.length : Nat) : Int))] : List Int)) #[Value.int IntKind.i64 a0_1, Value.int IntKind.i64 a0_2, Value.int IntKind.i64 (((l0_6.length : Nat) : Int))] E76 rfl (by decide) (by decide) ⟨_, _, rfl, rfl, by kernel_rfl⟩ rfl hF.size (fun Ax1 cx1 L1 w1 hO1 g1 hbl1 => ?_)
       try dsimp only
       have dj_o18_o17 : Dj Ax1 Ax0 := Dj.new hbl1 hO0.lt
       have hF := hF.trans g1
       have hO0 := hO0.later g1
       obtain ⟨s2_0, hr2, h⟩ := bse h
       refine ok_callm rfl (fun L2 w2 g2 lt2 => ?_)
       refine (frames_put.c k _ _ _ (([(IntKind.wrap IntKind.u8 ((15 : Nat) : Int))] : List Int)) _ _ _ (([(a0_1), (a0_2), (((l0_6.length : Nat) : Int))] : List Int)) s2_0 hr2 rfl rfl w2 (hO0.later g2).sl.bare (hO1.later g2).sl.bare).mono ?_
       rintro e w2' ⟨A2_0, c2_0, rfl, hb2, hO2_0⟩
       refine ⟨((A2_0, s2_0.length, c2_0), ()), rfl, hb2, fun g2' => ?_⟩
       try dsimp only
       have dj_o19_o17 : Dj A2_0 Ax0 := Dj.new hO2_0.fresh (hO0.later g2).lt
       have dj_o19_o18 : Dj A2_0 Ax1 := Dj.new hO2_0.fresh (hO1.later g2).lt
       have hO2_0 := hO2_0.call (hF.trans g2).size lt2
       have hF := hF.trans g2'
       have hO0 := hO0.later g2'
       have hO1 := hO1.later g2'
       obtain ⟨hq20, h⟩ := bif_need h
       have hq20 := of_decide_eq_true hq20
       refine ok_app (R := R23) (base := w.heap.size) (xs := s2_0) (ys := l0_6) rfl rfl E23 hO2_0 (hS0_6.later hF) (by decide) hq20 hF.size (fun Ax3 cx3 L3 w3 hO3 g3 hid3 hbl3 => ?_)
       try dsimp only
       have dj_o21_o17 : Dj Ax3 Ax0 := Dj.grow dj_o19_o17 hbl3 hO0.lt
       have dj_o21_o18 : Dj Ax3 Ax1 := Dj.grow dj_o19_o18 hbl3 hO1.lt
       have hO0 := hO0.other (Dj.symm dj_o19_o17) g3
       have hO1 := hO1.other (Dj.symm dj_o19_o18) g3
       have hF := Fine.own hF g3 (fun b hb => Or.inr (Own.base hO2_0 hb)) hid3
       obtain rfl := Option.some.inj h
       intro ρ L w' _ he _ _
       exact ⟨Ax3, cx3, rfl, (hF.ext he).below, (hO3.later he.fine).ret⟩
      ·refine ok_lit (R := R76) (base := w.heap.size) (xs := ([(a0_1), (a0_2), (((l0_6.length : Nat) : Int))] : List Int)) #[Value.int IntKind.i64 a0_1, Value.int IntKind.i64 a0_2, Value.int IntKind.i64 (((l0_6.length : Nat) : Int))] E76 rfl (by decide) (by decide) ⟨_, _, rfl, rfl, by kernel_rfl⟩ rfl hF.size (fun Ax0 cx0 L0 w0 hO0 g0 hbl0 => ?_)
       try dsimp only
       have hF := hF.trans g0
       refine ok_lit (R := R23) (base := w.heap.size) (xs := ([(IntKind.wrap IntKind.u8 ((15 : Nat) : Int))] : List Int)) #[Value.int IntKind.u8 (IntKind.wrap IntKind.u8 ((15 : Nat) : Int))] E23 rfl (by decide) (by decide) ⟨_, _, rfl, rfl, by kernel_rfl⟩ rfl hF.size (fun Ax1 cx1 L1 w1 hO1 g1 hbl1 => ?_)
       try dsimp only
       have dj_o23_o22 : Dj Ax1 Ax0 := Dj.new hbl1 hO0.lt
       have hF := hF.trans g1
       have hO0 := hO0.later g1
       obtain ⟨s2_0, hr2, h⟩ := bse h
       refine ok_callm rfl (fun L2 w2 g2 lt2 => ?_)
       refine (frames_put.c k _ _ _ (([(IntKind.wrap IntKind.u8 ((15 : Nat) : Int))] : List Int)) _ _ _ (([(a0_1), (a0_2), (((l0_6.length : Nat) : Int))] : List Int)) s2_0 hr2 rfl rfl w2 (hO1.later g2).sl.bare (hO0.later g2).sl.bare).mono ?_
       rintro e w2' ⟨A2_0, c2_0, rfl, hb2, hO2_0⟩
       refine ⟨((A2_0, s2_0.length, c2_0), ()), rfl, hb2, fun g2' => ?_⟩
       try dsimp only
       have dj_o24_o22 : Dj A2_0 Ax0 := Dj.new hO2_0.fresh (hO0.later g2).lt
       have dj_o24_o23 : Dj A2_0 Ax1 := Dj.new hO2_0.fresh (hO1.later g2).lt
       have hO2_0 := hO2_0.call (hF.trans g2).size lt2
       have hF := hF.trans g2'
       have hO0 := hO0.later g2'
       have hO1 := hO1.later g2'
       obtain ⟨hq25, h⟩ := bif_need h
       have hq25 := of_decide_eq_true hq25
       refine ok_app (R := R23) (base := w.heap.size) (xs := s2_0) (ys := l0_6) rfl rfl E23 hO2_0 (hS0_6.later hF) (by decide) hq25 hF.size (fun Ax3 cx3 L3 w3 hO3 g3 hid3 hbl3 => ?_)
       try dsimp only
       have dj_o26_o22 : Dj Ax3 Ax0 := Dj.grow dj_o24_o22 hbl3 hO0.lt
       have dj_o26_o23 : Dj Ax3 Ax1 := Dj.grow dj_o24_o23 hbl3 hO1.lt
       have hO0 := hO0.other (Dj.symm dj_o24_o22) g3
       have hO1 := hO1.other (Dj.symm dj_o24_o23) g3
       have hF := Fine.own hF g3 (fun b hb => Or.inr (Own.base hO2_0 hb)) hid3
       obtain rfl := Option.some.inj h
       intro ρ L w' _ he _ _
       exact ⟨Ax3, cx3, rfl, (hF.ext he).below, (hO3.later he.fine).ret⟩
     ·have h := bif_f h hc16
      refine ⟨?_, ?_⟩
      ·refine ok_lit (R := R23) (base := w.heap.size) (xs := ([(14)] : List Int)) #[Value.int IntKind.u8 14] E23 rfl (by decide) (by decide) ⟨_, _, rfl, rfl, by kernel_rfl⟩ rfl hF.size (fun Ax0 cx0 L0 w0 hO0 g0 hbl0 => ?_)
       try dsimp only
       have hF := hF.trans g0
       refine ok_lit (R := R76) (base := w.heap.size) (xs := ([(a0_1), (a0_2), (((l0_6.length : Nat) : Int))] : List Int)) #[Value.int IntKind.i64 a0_1, Value.int IntKind.i64 a0_2, Value.int IntKind.i64 (((l0_6.length : Nat) : Int))] E76 rfl (by decide) (by decide) ⟨_, _, rfl, rfl, by kernel_rfl⟩ rfl hF.size (fun Ax1 cx1 L1 w1 hO1 g1 hbl1 => ?_)
       try dsimp only
       have dj_o28_o27 : Dj Ax1 Ax0 := Dj.new hbl1 hO0.lt
       have hF := hF.trans g1
       have hO0 := hO0.later g1
       obtain ⟨s2_0, hr2, h⟩ := bse h
       refine ok_callm rfl (fun L2 w2 g2 lt2 => ?_)
       refine (frames_put.c k _ _ _ (([(14)] : List Int)) _ _ _ (([(a0_1), (a0_2), (((l0_6.length : Nat) : Int))] : List Int)) s2_0 hr2 rfl rfl w2 (hO0.later g2).sl.bare (hO1.later g2).sl.bare).mono ?_
       rintro e w2' ⟨A2_0, c2_0, rfl, hb2, hO2_0⟩
       refine ⟨((A2_0, s2_0.length, c2_0), ()), rfl, hb2, fun g2' => ?_⟩
       try dsimp only
       have dj_o29_o27 : Dj A2_0 Ax0 := Dj.new hO2_0.fresh (hO0.later g2).lt
       have dj_o29_o28 : Dj A2_0 Ax1 := Dj.new hO2_0.fresh (hO1.later g2).lt
       have hO2_0 := hO2_0.call (hF.trans g2).size lt2
       have hF := hF.trans g2'
       have hO0 := hO0.later g2'
       have hO1 := hO1.later g2'
       obtain ⟨hq30, h⟩ := bif_need h
       have hq30 := of_decide_eq_true hq30
       refine ok_app (R := R23) (base := w.heap.size) (xs := s2_0) (ys := l0_6) rfl rfl E23 hO2_0 (hS0_6.later hF) (by decide) hq30 hF.size (fun Ax3 cx3 L3 w3 hO3 g3 hid3 hbl3 => ?_)
       try dsimp only
       have dj_o31_o27 : Dj Ax3 Ax0 := Dj.grow dj_o29_o27 hbl3 hO0.lt
       have dj_o31_o28 : Dj Ax3 Ax1 := Dj.grow dj_o29_o28 hbl3 hO1.lt
       have hO0 := hO0.other (Dj.symm dj_o29_o27) g3
       have hO1 := hO1.other (Dj.symm dj_o29_o28) g3
       have hF := Fine.own hF g3 (fun b hb => Or.inr (Own.base hO2_0 hb)) hid3
       obtain rfl := Option.some.inj h
       intro ρ L w' _ he _ _
       exact ⟨Ax3, cx3, rfl, (hF.ext he).below, (hO3.later he.fine).ret⟩
      ·refine ok_lit (R := R76) (base := w.heap.size) (xs := ([(a0_1), (a0_2), (((l0_6.length : Nat) : Int))] : List Int)) #[Value.int IntKind.i64 a0_1, Value.int IntKind.i64 a0_2, Value.int IntKind.i64 (((l0_6.length : Nat) : Int))] E76 rfl (by decide) (by decide) ⟨_, _, rfl, rfl, by kernel_rfl⟩ rfl hF.size (fun Ax0 cx0 L0 w0 hO0 g0 hbl0 => ?_)
       try dsimp only
       have hF := hF.trans g0
       refine ok_lit (R := R23) (base := w.heap.size) (xs := ([(14)] : List Int)) #[Value.int IntKind.u8 14] E23 rfl (by decide) (by decide) ⟨_, _, rfl, rfl, by kernel_rfl⟩ rfl hF.size (fun Ax1 cx1 L1 w1 hO1 g1 hbl1 => ?_)
       try dsimp only
       have dj_o33_o32 : Dj Ax1 Ax0 := Dj.new hbl1 hO0.lt
       have hF := hF.trans g1
       have hO0 := hO0.later g1
       obtain ⟨s2_0, hr2, h⟩ := bse h
       refine ok_callm rfl (fun L2 w2 g2 lt2 => ?_)
       refine (frames_put.c k _ _ _ (([(14)] : List Int)) _ _ _ (([(a0_1), (a0_2), (((l0_6.length : Nat) : Int))] : List Int)) s2_0 hr2 rfl rfl w2 (hO1.later g2).sl.bare (hO0.later g2).sl.bare).mono ?_
       rintro e w2' ⟨A2_0, c2_0, rfl, hb2, hO2_0⟩
       refine ⟨((A2_0, s2_0.length, c2_0), ()), rfl, hb2, fun g2' => ?_⟩
       try dsimp only
       have dj_o34_o32 : Dj A2_0 Ax0 := Dj.new hO2_0.fresh (hO0.later g2).lt
       have dj_o34_o33 : Dj A2_0 Ax1 := Dj.new hO2_0.fresh (hO1.later g2).lt
       have hO2_0 := hO2_0.call (hF.trans g2).size lt2
       have hF := hF.trans g2'
       have hO0 := hO0.later g2'
       have hO1 := hO1.later g2'
       obtain ⟨hq35, h⟩ := bif_need h
       have hq35 := of_decide_eq_true hq35
       refine ok_app (R := R23) (base := w.heap.size) (xs := s2_0) (ys := l0_6) rfl rfl E23 hO2_0 (hS0_6.later hF) (by decide) hq35 hF.size (fun Ax3 cx3 L3 w3 hO3 g3 hid3 hbl3 => ?_)
       try dsimp only
       have dj_o36_o32 : Dj Ax3 Ax0 := Dj.grow dj_o34_o32 hbl3 hO0.lt
       have dj_o36_o33 : Dj Ax3 Ax1 := Dj.grow dj_o34_o33 hbl3 hO1.lt
       have hO0 := hO0.other (Dj.symm dj_o34_o32) g3
       have hO1 := hO1.other (Dj.symm dj_o34_o33) g3
       have hF := Fine.own hF g3 (fun b hb => Or.inr (Own.base hO2_0 hb)) hid3
       obtain rfl := Option.some.inj h
       intro ρ L w' _ he _ _
       exact ⟨Ax3, cx3, rfl, (hF.ext he).below, (hO3.later he.fine).ret⟩
    ·have h := bif_f h hc15
     refine ok_if (fun hc37 => ?_) (fun hc37 => ?_)
     ·have h := bif_t h hc37
      refine ok_lit (R := R23) (base := w.heap.size) (xs := ([(17)] : List Int)) #[Value.int IntKind.u8 17] E23 rfl (by decide) (by decide) ⟨_, _, rfl, rfl, by kernel_rfl⟩ rfl hF.size (fun Ax0 cx0 L0 w0 hO0 g0 hbl0 => ?_)
      try dsimp only
      have hF := hF.trans g0
      refine ok_lit (R := R76) (base := w.heap.size) (xs := ([(a0_1), (a0_3)] : List Int)) #[Value.int IntKind.i64 a0_1, Value.int IntKind.i64 a0_3] E76 rfl (by decide) (by decide) ⟨_, _, rfl, rfl, by kernel_rfl⟩ rfl hF.size (fun Ax1 cx1 L1 w1 hO1 g1 hbl1 => ?_)
      try dsimp only
      have dj_o39_o38 : Dj Ax1 Ax0 := Dj.new hbl1 hO0.lt
      have hF := hF.trans g1
      have hO0 := hO0.later g1
      obtain ⟨s2_0, hr2, h⟩ := bse h
      refine ok_callm rfl (fun L2 w2 g2 lt2 => ?_)
      refine (frames_put.c k _ _ _ (([(17)] : List Int)) _ _ _ (([(a0_1), (a0_3)] : List Int)) s2_0 hr2 rfl rfl w2 (hO0.later g2).sl.bare (hO1.later g2).sl.bare).mono ?_
      rintro e w2' ⟨A2_0, c2_0, rfl, hb2, hO2_0⟩
      refine ⟨((A2_0, s2_0.length, c2_0), ()), rfl, hb2, fun g2' => ?_⟩
      try dsimp only
      have dj_o40_o38 : Dj A2_0 Ax0 := Dj.new hO2_0.fresh (hO0.later g2).lt
      have dj_o40_o39 : Dj A2_0 Ax1 := Dj.new hO2_0.fresh (hO1.later g2).lt
      have hO2_0 := hO2_0.call (hF.trans g2).size lt2
      have hF := hF.trans g2'
      have hO0 := hO0.later g2'
      have hO1 := hO1.later g2'
      obtain rfl := Option.some.inj h
      intro ρ L w' _ he _ _
      exact ⟨A2_0, c2_0, rfl, (hF.ext he).below, (hO2_0.later he.fine).ret⟩
     ·have h := bif_f h hc37
      refine ok_if (fun hc41 => ?_) (fun hc41 => ?_)
      ·have h := bif_t h hc41
       refine ok_lit (R := R23) (base := w.heap.size) (xs := ([(IntKind.wrap IntKind.u8 a0_0)] : List Int)) #[Value.int IntKind.u8 (IntKind.wrap IntKind.u8 a0_0)] E23 rfl (by decide) (by decide) ⟨_, _, rfl, rfl, by kernel_rfl⟩ rfl hF.size (fun Ax0 cx0 L0 w0 hO0 g0 hbl0 => ?_)
       try dsimp only
       have hF := hF.trans g0
       refine ok_lit (R := R76) (base := w.heap.size) (xs := ([(a0_3)] : List Int)) #[Value.int IntKind.i64 a0_3] E76 rfl (by decide) (by decide) ⟨_, _, rfl, rfl, by kernel_rfl⟩ rfl hF.size (fun Ax1 cx1 L1 w1 hO1 g1 hbl1 => ?_)
       try dsimp only
       have dj_o43_o42 : Dj Ax1 Ax0 := Dj.new hbl1 hO0.lt
       have hF := hF.trans g1
       have hO0 := hO0.later g1
       obtain ⟨s2_0, hr2, h⟩ := bse h
       refine ok_callm rfl (fun L2 w2 g2 lt2 => ?_)
       refine (frames_put.c k _ _ _ (([(IntKind.wrap IntKind.u8 a0_0)] : List Int)) _ _ _ (([(a0_3)] : List Int)) s2_0 hr2 rfl rfl w2 (hO0.later g2).sl.bare (hO1.later g2).sl.bare).mono ?_
       rintro e w2' ⟨A2_0, c2_0, rfl, hb2, hO2_0⟩
       refine ⟨((A2_0, s2_0.length, c2_0), ()), rfl, hb2, fun g2' => ?_⟩
       try dsimp only
       have dj_o44_o42 : Dj A2_0 Ax0 := Dj.new hO2_0.fresh (hO0.later g2).lt
       have dj_o44_o43 : Dj A2_0 Ax1 := Dj.new hO2_0.fresh (hO1.later g2).lt
       have hO2_0 := hO2_0.call (hF.trans g2).size lt2
       have hF := hF.trans g2'
       have hO0 := hO0.later g2'
       have hO1 := hO1.later g2'
       obtain rfl := Option.some.inj h
       intro ρ L w' _ he _ _
       exact ⟨A2_0, c2_0, rfl, (hF.ext he).below, (hO2_0.later he.fine).ret⟩
      ·have h := bif_f h hc41
       refine ok_if (fun hc45 => ?_) (fun hc45 => ?_)
       ·have h := bif_t h hc45
        refine ok_lit (R := R23) (base := w.heap.size) (xs := ([(IntKind.wrap IntKind.u8 a0_0)] : List Int)) #[Value.int IntKind.u8 (IntKind.wrap IntKind.u8 a0_0)] E23 rfl (by decide) (by decide) ⟨_, _, rfl, rfl, by kernel_rfl⟩ rfl hF.size (fun Ax0 cx0 L0 w0 hO0 g0 hbl0 => ?_)
        try dsimp only
        have hF := hF.trans g0
        refine ok_lit (R := R76) (base := w.heap.size) (xs := ([(a0_3)] : List Int)) #[Value.int IntKind.i64 a0_3] E76 rfl (by decide) (by decide) ⟨_, _, rfl, rfl, by kernel_rfl⟩ rfl hF.size (fun Ax1 cx1 L1 w1 hO1 g1 hbl1 => ?_)
        try dsimp only
        have dj_o47_o46 : Dj Ax1 Ax0 := Dj.new hbl1 hO0.lt
        have hF := hF.trans g1
        have hO0 := hO0.later g1
        obtain ⟨s2_0, hr2, h⟩ := bse h
        refine ok_callm rfl (fun L2 w2 g2 lt2 => ?_)
        refine (frames_put.c k _ _ _ (([(IntKind.wrap IntKind.u8 a0_0)] : List Int)) _ _ _ (([(a0_3)] : List Int)) s2_0 hr2 rfl rfl w2 (hO0.later g2).sl.bare (hO1.later g2).sl.bare).mono ?_
        rintro e w2' ⟨A2_0, c2_0, rfl, hb2, hO2_0⟩
        refine ⟨((A2_0, s2_0.length, c2_0), ()), rfl, hb2, fun g2' => ?_⟩
        try dsimp only
        have dj_o48_o46 : Dj A2_0 Ax0 := Dj.new hO2_0.fresh (hO0.later g2).lt
        have dj_o48_o47 : Dj A2_0 Ax1 := Dj.new hO2_0.fresh (hO1.later g2).lt
        have hO2_0 := hO2_0.call (hF.trans g2).size lt2
        have hF := hF.trans g2'
        have hO0 := hO0.later g2'
        have hO1 := hO1.later g2'
        obtain rfl := Option.some.inj h
        intro ρ L w' _ he _ _
        exact ⟨A2_0, c2_0, rfl, (hF.ext he).below, (hO2_0.later he.fine).ret⟩
       ·have h := bif_f h hc45
        refine ok_if (fun hc49 => ?_) (fun hc49 => ?_)
        ·have h := bif_t h hc49
         refine ⟨?_, ?_⟩
         ·refine ok_lit (R := R23) (base := w.heap.size) (xs := ([(28)] : List Int)) #[Value.int IntKind.u8 28] E23 rfl (by decide) (by decide) ⟨_, _, rfl, rfl, by kernel_rfl⟩ rfl hF.size (fun Ax0 cx0 L0 w0 hO0 g0 hbl0 => ?_)
          try dsimp only
          have hF := hF.trans g0
          refine ok_lit (R := R76) (base := w.heap.size) (xs := ([(a0_4), (((l0_6.length : Nat) : Int))] : List Int)) #[Value.int IntKind.i64 a0_4, Value.int IntKind.i64 (((l0_6.length : Nat) : Int))] E76 rfl (by decide) (by decide) ⟨_, _, rfl, rfl, by kernel_rfl⟩ rfl hF.size (fun Ax1 cx1 L1 w1 hO1 g1 hbl1 => ?_)
          try dsimp only
          have dj_o51_o50 : Dj Ax1 Ax0 := Dj.new hbl1 hO0.lt
          have hF := hF.trans g1
          have hO0 := hO0.later g1
          obtain ⟨s2_0, hr2, h⟩ := bse h
          refine ok_callm rfl (fun L2 w2 g2 lt2 => ?_)
          refine (frames_put.c k _ _ _ (([(28)] : List Int)) _ _ _ (([(a0_4), (((l0_6.length : Nat) : Int))] : List Int)) s2_0 hr2 rfl rfl w2 (hO0.later g2).sl.bare (hO1.later g2).sl.bare).mono ?_
          rintro e w2' ⟨A2_0, c2_0, rfl, hb2, hO2_0⟩
          refine ⟨((A2_0, s2_0.length, c2_0), ()), rfl, hb2, fun g2' => ?_⟩
          try dsimp only
          have dj_o52_o50 : Dj A2_0 Ax0 := Dj.new hO2_0.fresh (hO0.later g2).lt
          have dj_o52_o51 : Dj A2_0 Ax1 := Dj.new hO2_0.fresh (hO1.later g2).lt
          have hO2_0 := hO2_0.call (hF.trans g2).size lt2
          have hF := hF.trans g2'
          have hO0 := hO0.later g2'
          have hO1 := hO1.later g2'
          obtain ⟨hq53, h⟩ := bif_need h
          have hq53 := of_decide_eq_true hq53
          refine ok_app (R := R23) (base := w.heap.size) (xs := s2_0) (ys := l0_6) rfl rfl E23 hO2_0 (hS0_6.later hF) (by decide) hq53 hF.size (fun Ax3 cx3 L3 w3 hO3 g3 hid3 hbl3 => ?_)
          try dsimp only
          have dj_o54_o50 : Dj Ax3 Ax0 := Dj.grow dj_o52_o50 hbl3 hO0.lt
          have dj_o54_o51 : Dj Ax3 Ax1 := Dj.grow dj_o52_o51 hbl3 hO1.lt
          have hO0 := hO0.other (Dj.symm dj_o52_o50) g3
          have hO1 := hO1.other (Dj.symm dj_o52_o51) g3
          have hF := Fine.own hF g3 (fun b hb => Or.inr (Own.base hO2_0 hb)) hid3
          obtain rfl := Option.some.inj h
          intro ρ L w' _ he _ _
          exact ⟨Ax3, cx3, rfl, (hF.ext he).below, (hO3.later he.fine).ret⟩
         ·refine ok_lit (R := R76) (base := w.heap.size) (xs := ([(a0_4), (((l0_6.length : Nat) : Int))] : List Int)) #[Value.int IntKind.i64 a0_4, Value.int IntKind.i64 (((l0_6.length : Nat) : Int))] E76 rfl (by decide) (by decide) ⟨_, _, rfl, rfl, by kernel_rfl⟩ rfl hF.size (fun Ax0 cx0 L0 w0 hO0 g0 hbl0 => ?_)
          try dsimp only
          have hF := hF.trans g0
          refine ok_lit (R := R23) (base := w.heap.size) (xs := ([(28)] : List Int)) #[Value.int IntKind.u8 28] E23 rfl (by decide) (by decide) ⟨_, _, rfl, rfl, by kernel_rfl⟩ rfl hF.size (fun Ax1 cx1 L1 w1 hO1 g1 hbl1 => ?_)
          try dsimp only
          have dj_o56_o55 : Dj Ax1 Ax0 := Dj.new hbl1 hO0.lt
          have hF := hF.trans g1
          have hO0 := hO0.later g1
          obtain ⟨s2_0, hr2, h⟩ := bse h
          refine ok_callm rfl (fun L2 w2 g2 lt2 => ?_)
          refine (frames_put.c k _ _ _ (([(28)] : List Int)) _ _ _ (([(a0_4), (((l0_6.length : Nat) : Int))] : List Int)) s2_0 hr2 rfl rfl w2 (hO1.later g2).sl.bare (hO0.later g2).sl.bare).mono ?_
          rintro e w2' ⟨A2_0, c2_0, rfl, hb2, hO2_0⟩
          refine ⟨((A2_0, s2_0.length, c2_0), ()), rfl, hb2, fun g2' => ?_⟩
          try dsimp only
          have dj_o57_o55 : Dj A2_0 Ax0 := Dj.new hO2_0.fresh (hO0.later g2).lt
          have dj_o57_o56 : Dj A2_0 Ax1 := Dj.new hO2_0.fresh (hO1.later g2).lt
          have hO2_0 := hO2_0.call (hF.trans g2).size lt2
          have hF := hF.trans g2'
          have hO0 := hO0.later g2'
          have hO1 := hO1.later g2'
          obtain ⟨hq58, h⟩ := bif_need h
          have hq58 := of_decide_eq_true hq58
          refine ok_app (R := R23) (base := w.heap.size) (xs := s2_0) (ys := l0_6) rfl rfl E23 hO2_0 (hS0_6.later hF) (by decide) hq58 hF.size (fun Ax3 cx3 L3 w3 hO3 g3 hid3 hbl3 => ?_)
          try dsimp only
          have dj_o59_o55 : Dj Ax3 Ax0 := Dj.grow dj_o57_o55 hbl3 hO0.lt
          have dj_o59_o56 : Dj Ax3 Ax1 := Dj.grow dj_o57_o56 hbl3 hO1.lt
          have hO0 := hO0.other (Dj.symm dj_o57_o55) g3
          have hO1 := hO1.other (Dj.symm dj_o57_o56) g3
          have hF := Fine.own hF g3 (fun b hb => Or.inr (Own.base hO2_0 hb)) hid3
          obtain rfl := Option.some.inj h
          intro ρ L w' _ he _ _
          exact ⟨Ax3, cx3, rfl, (hF.ext he).below, (hO3.later he.fine).ret⟩
        ·have h := bif_f h hc49
         refine ok_lit (R := R23) (base := w.heap.size) (xs := ([(IntKind.wrap IntKind.u8 a0_0)] : List Int)) #[Value.int IntKind.u8 (IntKind.wrap IntKind.u8 a0_0)] E23 rfl (by decide) (by decide) ⟨_, _, rfl, rfl, by kernel_rfl⟩ rfl hF.size (fun Ax0 cx0 L0 w0 hO0 g0 hbl0 => ?_)
         try dsimp only
         have hF := hF.trans g0
         obtain rfl := Option.some.inj h
         intro ρ L w' _ he _ _
         exact ⟨Ax0, cx0, rfl, (hF.ext he).below, (hO0.later he.fine).ret⟩
def ref01_Get.s2 (k : Nat) (a1 : Int) (l0 : List Int) (r4 : Int) : (Int × Int) → Option (Sum (Int × Int) (Int × Int × Int × Int)) := fun (v2_0, v2_1) => bif decide (v2_1 < IntKind.i64.wrap (1 * 2 ^ min (Int.toNat (Int.fdiv r4 (2 ^ 6))) 64)) then ((getI l0 (IntKind.i64.wrap (a1 + v2_1))).bind fun r12 => some (.inl ((IntKind.i64.wrap (IntKind.i64.wrap (v2_0 * 256) + IntKind.i64.wrap r12), IntKind.i64.wrap (v2_1 + 1))))) else (some (.inr ((v2_0, IntKind.i64.wrap (a1 + IntKind.i64.wrap (1 * 2 ^ min (Int.toNat (Int.fdiv r4 (2 ^ 6))) 64)), 0, 0))))
def ref01_Get.F (k : Nat) (l0 : List Int) (a1 : Int) : Option (Int × Int × Int × Int) := bif decide (a1 < 0) then (some ((0, 0, 1, a1))) else (bif decide (((l0.length : Nat) : Int) < a1) then (some ((0, 0, 1, a1))) else (bif a1 == ((l0.length : Nat) : Int) then (some ((0, 0, 3, ((l0.length : Nat) : Int)))) else ((getI l0 a1).bind fun r4 => bif decide (0 ≤ Int.fdiv r4 (2 ^ 6)) then (bif decide (IntKind.i64.wrap (((l0.length : Nat) : Int) - a1) < IntKind.i64.wrap (1 * 2 ^ min (Int.toNat (Int.fdiv r4 (2 ^ 6))) 64)) then (some ((0, 0, 3, ((l0.length : Nat) : Int)))) else ((getI l0 a1).bind fun r8 => iter (ref01_Get.s2 k a1 l0 r4) k (IntKind.i64.wrap (IntKind.wrap IntKind.u8 (((BitVec.toNat (BitVec.ofInt 8 r8 &&& BitVec.ofInt 8 63)) : Nat) : Int)), 1))) else none)))
abbrev ref01_Get.A : Nat → LA := fun r => if r = 10 then ⟨[(8, false, [Lf.i .i64]), (9, false, [Lf.i .i64])], []⟩ else ⟨[], []⟩
set_option maxHeartbeats 4000000 in
theorem ref01_Get.t (A0 : Option Addr) (n0 c0 : Nat) (a1 : Int) : tree Try.prog ref01_Get.A noC Try.f64 [AV.v (Value.slice A0 n0 c0), AV.v (.int .i64 a1)] [] =
  bif decide (a1 < 0) then (
   .done (AV.tup [AV.v (.int .i64 0), AV.v (.int .i64 0), AV.agg [AV.v (.int .i64 1), AV.v (.int .i64 a1)]]) ([]))
  else (
   bif decide (((n0 : Nat) : Int) < a1) then (
    .done (AV.tup [AV.v (.int .i64 0), AV.v (.int .i64 0), AV.agg [AV.v (.int .i64 1), AV.v (.int .i64 a1)]]) ([]))
   else (
    bif a1 == ((n0 : Nat) : Int) then (
     .done (AV.tup [AV.v (.int .i64 0), AV.v (.int .i64 0), AV.agg [AV.v (.int .i64 3), AV.v (.int .i64 ((n0 : Nat) : Int))]]) ([]))
    else (
     .need (decide (0 ≤ a1) && decide (a1 < ((n0 : Nat) : Int)) && Option.isSome A0) (
     .ld (Option.map (fun x => Addr.add x (Int.toNat a1 * 1)) A0) ([Lf.i IntKind.u8]) (fun x0 =>
      .need (true) (
      .need (decide (0 ≤ Int.fdiv x0.1 (2 ^ 6))) (
      bif decide (IntKind.i64.wrap (((n0 : Nat) : Int) - a1) < IntKind.i64.wrap (1 * 2 ^ min (Int.toNat (Int.fdiv x0.1 (2 ^ 6))) 64)) then (
       .done (AV.tup [AV.v (.int .i64 0), AV.v (.int .i64 0), AV.agg [AV.v (.int .i64 3), AV.v (.int .i64 ((n0 : Nat) : Int))]]) ([]))
      else (
       .need (decide (0 ≤ a1) && decide (a1 < ((n0 : Nat) : Int)) && Option.isSome A0) (
       .ld (Option.map (fun x => Addr.add x (Int.toNat a1 * 1)) A0) ([Lf.i IntKind.u8]) (fun x1 =>
        .loop ([Lf.i .i64, Lf.i .i64]) ((IntKind.i64.wrap (IntKind.wrap IntKind.u8 (((BitVec.toNat (BitVec.ofInt 8 x1.1 &&& BitVec.ofInt 8 63)) : Nat) : Int)), 1, PUnit.unit)) 0 (fun x2 =>
         bif decide (x2.2.1 < IntKind.i64.wrap (1 * 2 ^ min (Int.toNat (Int.fdiv x0.1 (2 ^ 6))) 64)) then (
          .need (decide (0 ≤ IntKind.i64.wrap (a1 + x2.2.1)) && decide (IntKind.i64.wrap (a1 + x2.2.1) < ((n0 : Nat) : Int)) && Option.isSome A0) (
          .ld (Option.map (fun x => Addr.add x (Int.toNat (IntKind.i64.wrap (a1 + x2.2.1)) * 1)) A0) ([Lf.i IntKind.u8]) (fun x3 =>
           .again 0 ([Lf.i .i64, Lf.i .i64]) ((IntKind.i64.wrap (IntKind.i64.wrap (x2.1 * 256) + IntKind.i64.wrap x3.1), IntKind.i64.wrap (x2.2.1 + 1), PUnit.unit)))))
         else (
          .done (AV.tup [AV.v (.int .i64 x2.1), AV.v (.int .i64 (IntKind.i64.wrap (a1 + IntKind.i64.wrap (1 * 2 ^ min (Int.toNat (Int.fdiv x0.1 (2 ^ 6))) 64)))), AV.agg [AV.v (.int .i64 0), AV.v (.int .i64 0)]]) ([]))))))))))))) := by kernel_rfl
set_option maxHeartbeats 4000000 in
theorem ref01_Get.c (k : Nat) (A0 : Option Addr) (n0 c0 : Nat) (l0 : List Int) (a1 : Int) (r : Int × Int × Int × Int) (h : ref01_Get.F k l0 a1 = some r) (hn0 : n0 = l0.length) (w : World) (hS0 : SlR R23.row (fun _ => False) w A0 c0 l0) : Calls Try.prog 64 (AV.gs id [AV.v (Value.slice A0 n0 c0), AV.v (.int .i64 a1)]).toArray w fun e w' => e = .returned (((Sh.tup [(false, 1), (false, 1), (true, 2)] : Sh).av (vs [Lf.i .i64, Lf.i .i64, Lf.i .i64, Lf.i .i64] (r.1, r.2.1, r.2.2.1, r.2.2.2, ()))).g id) ∧ Below w.heap.size w w' := by
 subst hn0
 refine enter0 mixed ref01_Get.A noC [AV.v (Value.slice A0 l0.length c0), AV.v (.int .i64 a1)] Try.func64 rfl rfl rfl (fun hF => ?_)
 rw [ref01_Get.t]
 unfold ref01_Get.F at h
 try dsimp only at h
 refine ok_if (fun hc1 => ?_) (fun hc1 => ?_)
 ·have h := bif_t h hc1
  obtain rfl := Option.some.inj h
  intro ρ L w' _ he _ _
  exact ⟨rfl, (hF.ext he).below⟩
 ·have h := bif_f h hc1
  refine ok_if (fun hc2 => ?_) (fun hc2 => ?_)
  ·have h := bif_t h hc2
   obtain rfl := Option.some.inj h
   intro ρ L w' _ he _ _
   exact ⟨rfl, (hF.ext he).below⟩
  ·have h := bif_f h hc2
   refine ok_if (fun hc3 => ?_) (fun hc3 => ?_)
   ·have h := bif_t h hc3
    obtain rfl := Option.some.inj h
    intro ρ L w' _ he _ _
    exact ⟨rfl, (hF.ext he).below⟩
   ·have h := bif_f h hc3
    obtain ⟨r4, hr5, h⟩ := bse h
    refine ok_need (getI_need (hS0.later hF) hr5) ?_
    refine ok_get hS0 hF hr5 (by simp) (fun cs hcs => ⟨(r4, ()), hcs.symm, ?_⟩)
    try dsimp only
    refine ok_need rfl ?_
    obtain ⟨hn6, h⟩ := bif_need h
    refine ok_need hn6 ?_
    refine ok_if (fun hc7 => ?_) (fun hc7 => ?_)
    ·have h := bif_t h hc7
     obtain rfl := Option.some.inj h
     intro ρ L w' _ he _ _
     exact ⟨rfl, (hF.ext he).below⟩
    ·have h := bif_f h hc7
     obtain ⟨r8, hr9, h⟩ := bse h
     refine ok_need (getI_need (hS0.later hF) hr9) ?_
     refine ok_get hS0 hF hr9 (by simp) (fun cs hcs => ⟨(r8, ()), hcs.symm, ?_⟩)
     try dsimp only
     obtain ⟨I2, hI2⟩ : ∃ I : Nat → Tup [Lf.i .i64, Lf.i .i64] → (Nat → Prop) → World → Prop, I = (fun m_ y L w' => ∃ (v2_0 : Int) (v2_1 : Int), y = (v2_0, v2_1, ()) ∧ iter (ref01_Get.s2 k a1 l0 r4) m_ (v2_0, v2_1) = some r ∧ Fine (fun _ => False) w L w') := ⟨_, rfl⟩
     refine ok_loop I2 k (by rw [hI2]; exact ⟨_, _, rfl, h, hF⟩) ?_
     clear h
     intro m_ y L2 w2 hy
     rw [hI2] at hy
     obtain ⟨v2_0, v2_1, rfl, h, hF⟩ := hy
     obtain ⟨m2, o2, rfl, h, hl2, hr_2⟩ := iter_some h
     unfold ref01_Get.s2 at h
     try dsimp only at h
     try dsimp only
     refine ok_if (fun hc11 => ?_) (fun hc11 => ?_)
     ·have h := bif_t h hc11
      obtain ⟨r12, hr13, h⟩ := bse h
      refine ok_need (getI_need (hS0.later hF) hr13) ?_
      refine ok_get hS0 hF hr13 (by simp) (fun cs hcs => ⟨(r12, ()), hcs.symm, ?_⟩)
      try dsimp only
      obtain rfl := Option.some.inj h
      have h := hl2 _ rfl
      exact ok_again (I := I2) m2 (Nat.lt_succ_self _) (fun L w' he => by rw [hI2]; exact ⟨_, _, rfl, h, hF.trans he.fine⟩)
     ·have h := bif_f h hc11
      obtain rfl := Option.some.inj h
      obtain rfl := hr_2 _ rfl
      intro ρ L w' _ he _ _
      exact ⟨rfl, (hF.ext he).below⟩
end Go.Proofs.Ytpdchohbmmfemaa.X
